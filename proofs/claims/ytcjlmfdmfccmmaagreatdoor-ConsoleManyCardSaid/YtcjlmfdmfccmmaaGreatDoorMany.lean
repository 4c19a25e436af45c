/- ConsoleMany returns true, for all lists: the tied card. Conditions: the package-level variables that the row lists hold what the card ties them to. -/
import Derived.Test.YtcjlmfdmfccmmaaGreatDoorQ
import Derived.Test.YtcjlmfdmfccmmaaGreatDoorJ0
import Derived.Test.YtcjlmfdmfccmmaaGreatDoorJ1
import Derived.Test.YtcjlmfdmfccmmaaGreatDoorJ2
import Derived.Test.YtcjlmfdmfccmmaaGreatDoorJ3
import Derived.Test.YtcjlmfdmfccmmaaGreatDoorJ4
import Derived.Test.YtcjlmfdmfccmmaaGreatDoorTie
import Derived.Test.YtcjlmfdmfccmmaaGreatDoorCards
import Derived.ProofKit
import Derived.LaidMore
import Derived.SizedLaws
import Derived.Carry
import Derived.ChangeSlices
import Derived.OpenShut
import Derived.Stop.Joined
namespace Go.Proofs
open Go Go.Hal Go.RowKit Go.Lib Go.Shelf
set_option maxHeartbeats 4000000
set_option maxRecDepth 1000000
theorem Tryz.num_calls (x : Int) (w : World) : Calls Tryz.prog 10 #[.int .i64 x] w fun e w' => e = .returned (.int .i64 x) ∧ w' = w := by
  go_enter Tryz.func10, Tryz.ntmps10
  go_wp2
  go_ret
  exact ⟨rfl, rfl⟩
noncomputable def outS (v4 v5 : Value) (s : ByteArray) : ByteArray := if s.size ≤ 65536 then ⟨(runOut v4 v5 (linesOf s)).toArray⟩ else ⟨#[]⟩
def outE (s : ByteArray) : Int := if s.size ≤ 65536 then 0 else 2901
theorem Tryz.run_any {v4 v5 : Value} {W : World} (G : Glob W v4 v5) {m : Int} (hm : W.cell? ⟨0, 0, none⟩ = some (.int .i64 m)) (s : ByteArray) :
    Calls Tryz.prog 9 #[.string s] W fun e W' => e = .returned (.tuple #[.string (outS v4 v5 s), .int .i64 (outE s)]) ∧ Below W.heap.size W W' := by
  unfold outS outE
  by_cases hs : s.size ≤ 65536
  · rw [if_pos hs, if_pos hs]
    exact Tryz.run_calls G hm s hs
  · rw [if_neg hs, if_neg hs]
    refine (Tryz.run_long s (by omega)).mono ?_
    rintro e w ⟨h, rfl⟩
    exact ⟨h, Below.refl _ _⟩
theorem outE_cases (s : ByteArray) : (outE s = 0 ∧ s.size ≤ 65536) ∨ (outE s = 2901 ∧ 65536 < s.size) := by
  unfold outE
  by_cases hs : s.size ≤ 65536
  · exact .inl ⟨if_pos hs, hs⟩
  · exact .inr ⟨if_neg hs, by omega⟩
theorem mk_append (a b : List UInt8) : (⟨(a ++ b).toArray⟩ : ByteArray) = ⟨a.toArray⟩ ++ ⟨b.toArray⟩ := by
  apply ByteArray.ext
  rw [ByteArray.data_append]
  simp
theorem extract_append_left (a b : ByteArray) : (a ++ b).extract 0 a.size = a := by
  rw [ByteArray.extract_append]
  simp
theorem begins_law (v4 v5 : Value) (a b : ByteArray) (h : (a ++ nl ++ b).size ≤ 65536) : outE (a ++ nl) = 0 ∧ (outS v4 v5 (a ++ nl)).size ≤ (outS v4 v5 (a ++ nl ++ b)).size ∧ (outS v4 v5 (a ++ nl ++ b)).extract 0 (outS v4 v5 (a ++ nl)).size = outS v4 v5 (a ++ nl) := by
  have h1 : (a ++ nl).size ≤ 65536 := by rw [ByteArray.size_append] at h; omega
  unfold outE outS
  rw [if_pos h1, if_pos h1, if_pos h, runOut_nl, runOut_end, mk_append]
  refine ⟨rfl, by rw [ByteArray.size_append]; omega, extract_append_left _ _⟩
theorem Tryz.begins_calls {v4 v5 : Value} {W : World} (G : Glob W v4 v5) {m : Int} (hm : W.cell? ⟨0, 0, none⟩ = some (.int .i64 m)) (a b : ByteArray) (ha : a.size + b.size < 562949953421312) :
    Calls Tryz.prog 3 #[.string a, .string b] W fun e W' => e = .returned (.bool true) ∧ Below W.heap.size W W' := by
  have e8 : ∀ args w, (callFunc 8 args).run Tryz.prog w = .ok (.enter 8 args) w := enters_of Tryz.func8 (by kernel_rfl) rfl
  have e9 : ∀ args w, (callFunc 9 args).run Tryz.prog w = .ok (.enter 9 args) w := enters_of Tryz.func9 (by kernel_rfl) rfl
  have e10 : ∀ args w, (callFunc 10 args).run Tryz.prog w = .ok (.enter 10 args) w := enters_of Tryz.func10 (by kernel_rfl) rfl
  have h8 := G.size
  go_enter Tryz.func3, Tryz.ntmps3
  go_wp2_with (go_at_fn 8; refine (awake_calls G).mono ?_)
  rintro e w1 ⟨rfl, hb1⟩
  have hm1 : w1.cell? ⟨0, 0, none⟩ = some (.int .i64 m) := (hb1.cell (p := ⟨0, 0, none⟩) (by show 0 < W.heap.size; omega)).trans hm
  have G1 := G.below h8 hb1
  go_wp2_with (go_at_fn 9; refine (Tryz.run_any G1 hm1 (a ++ nl)).mono ?_)
  rintro e w2 ⟨rfl, hb2⟩
  have hm2 : w2.cell? ⟨0, 0, none⟩ = some (.int .i64 m) := (hb2.cell (p := ⟨0, 0, none⟩) (by show 0 < w1.heap.size; have := hb1.size; omega)).trans hm1
  have G2 := G1.below (by have := hb1.size; omega) hb2
  have hbx : Below W.heap.size W w2 := hb1.trans (hb2.mono hb1.size)
  have hL := begins_law v4 v5 a b
  have hc1 := outE_cases (a ++ nl ++ b)
  have hc2 : 65536 < (a ++ nl ++ b).size → outS v4 v5 (a ++ nl ++ b) = ⟨#[]⟩ := fun h => by unfold outS; rw [if_neg (by omega)]
  generalize outS v4 v5 (a ++ nl) = x at *
  generalize outE (a ++ nl) = ex at *
  go_wp2_with (go_at_fn 9; refine (Tryz.run_any G2 hm2 (a ++ nl ++ b)).mono ?_)
  rintro e w3 ⟨rfl, hb3⟩
  have hby : Below W.heap.size W w3 := hbx.trans (hb3.mono hbx.size)
  generalize outS v4 v5 (a ++ nl ++ b) = y at *
  generalize outE (a ++ nl ++ b) = ey at *
  rcases hc1 with ⟨rfl, hsz⟩ | ⟨rfl, hsz⟩
  · obtain ⟨rfl, hxy, hex⟩ := hL hsz
    go_wp2
    go_ret
    exact ⟨rfl, hby⟩
  · obtain rfl := hc2 hsz
    have hz : (a ++ nl ++ b).size = a.size + 1 + b.size := by rw [ByteArray.size_append, ByteArray.size_append]; rfl
    go_wp2
    go_ret
    exact ⟨rfl, hby⟩
end Go.Proofs
namespace Go.Proofs
open Go Go.Hal Go.RowKit Go.Lib Go.Shelf
set_option maxHeartbeats 4000000
set_option maxRecDepth 1000000
def allW : List ByteArray := [⟨#[115, 104, 97, 32, 50, 53, 54, 32, 48, 48]⟩, ⟨#[109, 115, 103, 32, 49, 56, 48, 48, 48, 48, 48, 49, 48, 48]⟩, ⟨#[112, 50, 53, 54, 32, 48, 48]⟩, ⟨#[102, 114, 111, 98]⟩, ⟨#[35, 32, 99]⟩, ⟨#[97, 101, 115, 32, 45, 32, 45]⟩, ⟨#[104, 109, 97, 99, 32, 51, 56, 52, 32, 48, 48, 32, 48, 49]⟩, ⟨#[115, 104, 97, 32, 51, 56, 52, 32, 45]⟩]
theorem allW_at {k : Nat} (h : k < 8) : ∃ x, (allW.map Value.string).toArray[k]? = some (.string x) ∧ x.size ≤ 14 := by
  match k, h with
  | 0, _ | 1, _ | 2, _ | 3, _ | 4, _ | 5, _ | 6, _ | 7, _ => exact ⟨_, rfl, by decide⟩
theorem many_law (v4 v5 : Value) (S x : ByteArray) (h : S = ⟨#[]⟩ ∨ ∃ y, S = y ++ nl) : runOut v4 v5 (linesOf (S ++ x ++ nl)) = runOut v4 v5 (linesOf S) ++ runOut v4 v5 (linesOf x) := by
  rcases h with rfl | ⟨y, rfl⟩
  · have e : (⟨#[]⟩ : ByteArray) ++ x = x := by apply ByteArray.ext; rw [ByteArray.data_append]; simp
    rw [e, runOut_end, runOut_empty, List.nil_append]
  · rw [runOut_end, runOut_nl, runOut_end]
theorem Tryz.many_calls {v4 v5 : Value} {W : World} (G : Glob W v4 v5) {m : Int} (hm : W.cell? ⟨0, 0, none⟩ = some (.int .i64 m)) (ao : Option Addr) (len cap : Nat) (Z : Nat → Int) (_hlen : len < 9223372036854775808)
    (hcell : ∀ i, i < len → ∃ a, ao = some a ∧ W.cell? (a.add i) = some (.int .i64 (Z i)) ∧ (a.add i).block < W.heap.size) :
    Calls Tryz.prog 7 #[.slice ao len cap] W fun e W' => e = .returned (.bool true) ∧ Below W.heap.size W W' := by
  have e8 : ∀ args w, (callFunc 8 args).run Tryz.prog w = .ok (.enter 8 args) w := enters_of Tryz.func8 (by kernel_rfl) rfl
  have e9 : ∀ args w, (callFunc 9 args).run Tryz.prog w = .ok (.enter 9 args) w := enters_of Tryz.func9 (by kernel_rfl) rfl
  have e10 : ∀ args w, (callFunc 10 args).run Tryz.prog w = .ok (.enter 10 args) w := enters_of Tryz.func10 (by kernel_rfl) rfl
  have h8 := G.size
  go_enter Tryz.func7, Tryz.ntmps7
  go_wp2_with (go_at_fn 8; refine (awake_calls G).mono ?_)
  rintro e w1 ⟨rfl, hb1⟩
  have hm1 : w1.cell? ⟨0, 0, none⟩ = some (.int .i64 m) := (hb1.cell (p := ⟨0, 0, none⟩) (by show 0 < W.heap.size; omega)).trans hm
  have G1 := G.below h8 hb1
  go_wp2
  go_loopg [4, 5, 6] 30 (fun gf s4 s5 s6 wx => ∃ (i : Nat) (S : ByteArray), i + gf = 30 ∧ s6 = .int .i64 i ∧ s4 = .string S ∧ s5 = .string ⟨(runOut v4 v5 (linesOf S)).toArray⟩ ∧ (S = ⟨#[]⟩ ∨ ∃ y, S = y ++ nl) ∧ S.size ≤ i * 16 ∧ (runOut v4 v5 (linesOf S)).length ≤ i * 8592228385 ∧
    wx.heap[w1.heap.size]? = some (.cells (allW.map Value.string).toArray 9) ∧ Below W.heap.size W wx)
  case atStart =>
    refine ⟨0, ⟨#[]⟩, rfl, rfl, rfl, by rw [runOut_empty], .inl rfl, Nat.zero_le _, by rw [runOut_empty]; exact Nat.zero_le _, alloc_new w1 _, hb1.alloc hb1.size _⟩
  case round =>
    obtain ⟨i, S, hig, rfl, rfl, rfl, hS, hSz, hSl, hrow, hbx⟩ := hrel
    have hm2 : wr.cell? ⟨0, 0, none⟩ = some (.int .i64 m) := (hbx.cell (p := ⟨0, 0, none⟩) (by show 0 < W.heap.size; omega)).trans hm
    have G2 := G.below h8 hbx
    cases gk with
    | zero =>
      obtain rfl : i = 30 := by omega
      by_cases h1 : (30 : Int) < (len : Int)
      · go_wp2_with (go_at_fn 9; refine (Tryz.run_calls G2 hm2 S (by omega)).mono ?_)
        rintro e w3 rfl hb3
        have hby : Below W.heap.size W w3 := hbx.trans (hb3.mono hbx.size)
        go_wp2
        go_ret
        exact ⟨rfl, hby⟩
      · go_wp2_with (go_at_fn 9; refine (Tryz.run_calls G2 hm2 S (by omega)).mono ?_)
        rintro e w3 rfl hb3
        have hby : Below W.heap.size W w3 := hbx.trans (hb3.mono hbx.size)
        go_wp2
        go_ret
        exact ⟨rfl, hby⟩
    | succ gf =>
      have hi30 : (i : Int) < 30 := by omega
      by_cases h1 : (i : Int) < (len : Int)
      · obtain ⟨a, rfl, hc0, hal⟩ := hcell i (by omega)
        have hc : wr.cell? (a.add i) = some (.int .i64 (Z i)) := (hbx.cell (p := a.add i) hal).trans hc0
        obtain ⟨x, hx, hxs⟩ := allW_at (k := (IntKind.u64.wrap (Z i) % 8).toNat) (by omega)
        have hcx : wr.cell? ⟨w1.heap.size, (IntKind.u64.wrap (Z i) % 8).toNat, none⟩ = some (.string x) := by
          rw [Lib.cell_of_heap hrow]; exact hx
        clear hx
        have hw0 : 0 ≤ IntKind.u64.wrap (Z i) := by
          rw [IntKind.wrap_u64]
          omega
        go_wp2_with (go_at_fn 9; refine (Tryz.run_len G2 hm2 x (by omega)).mono ?_)
        rintro e w3 ⟨rfl, hxl, hb3⟩
        have hby : Below W.heap.size W w3 := hbx.trans (hb3.mono hbx.size)
        have hrow3 := below_keptC hb3 _ _ hrow
        have hlaw := many_law v4 v5 S x hS
        go_wp2
        go_roundg gf
        case measure => omega
        case rel =>
          have e1 : runOut v4 v5 (linesOf (S ++ x ++ nl)) = runOut v4 v5 (linesOf S) ++ runOut v4 v5 (linesOf x) := hlaw
          refine ⟨i + 1, S ++ x ++ nl, by omega, rfl, rfl, ?_, .inr ⟨S ++ x, rfl⟩, ?_, ?_, hrow3, hby⟩
          · rw [e1, mk_append]
          · rw [ByteArray.size_append, ByteArray.size_append]
            have : nl.size = 1 := rfl
            omega
          · rw [e1, List.length_append]; omega
      · go_wp2_with (go_at_fn 9; refine (Tryz.run_calls G2 hm2 S (by omega)).mono ?_)
        rintro e w3 rfl hb3
        have hby : Below W.heap.size W w3 := hbx.trans (hb3.mono hbx.size)
        go_wp2
        go_ret
        exact ⟨rfl, hby⟩
end Go.Proofs
namespace Go.Proofs.YtcjlmfdmfccmmaaGreatDoor
open Go Go.Hal Go.ChangeShapes Go.WideShapes Go.ChangeAt Go.RowKit
set_option maxRecDepth 1000000
theorem own : ownKnob Tryz.prog.godebug = none := by kernel_rfl
/-- the door's heap, with Go's own table laid -/
noncomputable def wit (os : Os) : World := { World.doorLaid Tryz.prog 72 os with heap := (World.doorLaid Tryz.prog 72 os).heap.setIfInBounds 1 (.cells ⟨intsV .u8 tabFirst⟩ 190) }
theorem wit_shaped (os : Os) (args : Array Value) : ((wit os).forCall (fun _ _ => 0) ⟨#[], args, []⟩).Shaped Tryz.prog := World.shaped_of_RefB (by kernel_rfl) (by kernel_rfl)
theorem wit_met (os : Os) (args : Array Value) : laidMetH Tryz.prog laid7 ((wit os).forCall (fun _ _ => 0) ⟨#[], args, []⟩).memory :=
  laidMetH_of_parts3 (fuel := 8) (laidMet_of_run' 8 (by kernel_rfl) (by kernel_rfl)) (by kernel_rfl) (by kernel_rfl)
theorem laidOut : laidOutB Tryz.prog = true := by kernel_rfl
theorem cells3 : Tryz.prog.cellsOf 3 = 1 := by kernel_rfl
theorem many_lifted (os : Os) (started : os.Started) (H : Type) (enc : TypeId × Value → H) :
    ReturnsInHanded {} Tryz.checked os 7 .any (fun w args => (Rows.consoleManySpec.pre enc Tryz.prog Tryz.f7 [] false w args ∧ laidMetH Tryz.prog laid7 w) ∧ sizedMet enc Tryz.prog Tryz.f7 (OpenSpec.ofChange Rows.consoleManySpec) false w args)
      (Rows.consoleManySpec.post enc Tryz.prog Tryz.f7 false true false false) := by
  refine returnsInHanded_of_calls own started (by kernel_rfl)
    (ChangeSpec.witness_shaped (enc := enc) (C := Tryz.checked) (os := os) (X := fun w _ => laidMetH Tryz.prog laid7 w) false (wit os) #[.slice none 0 0] 8 rfl (wit_shaped os _) (by kernel_rfl) (by kernel_rfl) (by kernel_rfl) (wit_met os _)) ?_
  intro w tape i _ hsh _ hok hpre _
  obtain ⟨_, _, _, fn', hfn', _, _, _, _, hval⟩ := hok
  obtain rfl := Option.some.inj (hfn'.symm.trans Tryz.func7)
  obtain ⟨⟨⟨ds, gs, before, hw, _⟩, hx⟩, _⟩ := hpre
  have hW := DataW.Whole.of_heap (w' := w.forCall tape i) (by rfl) hw
  have hX : laidMetH Tryz.prog laid7 (w.forCall tape i) := hx.of_heap (by rfl)
  have hW' := hW
  obtain ⟨p, q, hA0, hV, rfl, _, _⟩ := hW
  have hA : DataW.TrodAll enc Tryz.prog (w.forCall tape i) 0 (fun _ => true) true Tryz.f7.params.toList i.args.toList ds p := hA0
  rw [Tryz.params7] at hA hval
  obtain ⟨v0, d0, ha, rfl, h0⟩ := trodAll_one hA
  obtain ⟨rfl, rfl⟩ := trodVars_none hV
  obtain ⟨a0, len, cap, rfl⟩ := okWide_slice Tryz.underlying28 (hval 0 28 v0 rfl (by rw [ha]; rfl))
  have h0k := h0
  obtain ⟨fuel, hf⟩ := h0
  have hlt : ∀ x ∈ p, x.block < (w.forCall tape i).heap.size := fun x hx => by simpa using hW'.lt x (by simpa using hx)
  obtain ⟨v4, v5, G⟩ := glob_of hsh hX
  obtain ⟨m, hm⟩ := maxlen_of hsh
  obtain ⟨Z, hlen, hcell⟩ : ∃ Z : Nat → Int, len < 9223372036854775808 ∧ ∀ j, j < len → ∃ a, a0 = some a ∧ (w.forCall tape i).cell? (a.add j) = some (.int .i64 (Z j)) ∧ (a.add j).block < (w.forCall tape i).heap.size := by
    rcases open_ints Tryz.underlying28 Tryz.underlying3 cells3 hf with ⟨hcs, _⟩ | ⟨a, len', cap', zs, hcs, _, hl, hmx, hz, _, hc, _⟩
    · simp [Value.cells] at hcs
      obtain ⟨rfl, rfl, rfl⟩ := hcs
      exact ⟨fun _ => 0, by omega, fun j hj => by omega⟩
    · simp [Value.cells] at hcs
      obtain ⟨rfl, rfl, rfl⟩ := hcs
      simp only [if_true] at hz
      exact ⟨fun j => zs.getD j 0, by unfold maxLen at hmx; omega, fun j hj => ⟨a, rfl, hc j (by omega), World.block_lt_of_cell? _ _ (hc j (by omega))⟩⟩
  have key := Tryz.many_calls G hm a0 len cap Z hlen hcell
  rw [← ha] at key
  refine key.mono fun e W' ⟨he, hk⟩ => ?_
  subst he
  refine ChangeSpec.post_blind ?_
  refine ⟨_, [], _, [], p, [], hW', trodAll_mk1 (shut_bool Tryz.underlying4 _), ?_, rfl, hk.frame _, fun h => by cases h⟩
  rw [ha, Tryz.params7]
  exact trodAll_mk1 (Below.trod laidOut (by kernel_rfl) (of_decide_eq_true (by kernel_rfl)) h0k hk hlt)
theorem band {a b : Bool} (ha : a = true) (hb : b = true) : (a && b) = true := by rw [ha, hb]; rfl
theorem manyFacts : joinedFacts Tryz.pinned.checked.prog 7 Tryz.f7 Rows.consoleManySpec Rows.consoleManyRow = true := by
  unfold joinedFacts
  exact (band (band (band (band (band (band (band (band (band (band (band (band (band (band (band (band (band (band (band (band (band (band (band (band (band (band (band (band (band (band (band manyJ0 manyJ1) manyJ2) manyJ3) manyJ4) manyJ5) manyJ6) manyJ7) manyJ8) manyJ9) manyJ10) manyJ11) manyJ12) manyJ13) manyJ14) manyJ15) manyJ16) manyJ17) manyJ18) manyJ19) manyJ20) manyJ21) manyJ22) manyJ23) manyJ24) manyJ25) manyJ26) manyJ27) manyJ28) manyJ29) manyJ30) manyJ31)
theorem many_said : Rows.ConsoleManySaid :=
  OpenClaim.holds_of_wide 7 Tryz.f7 rfl rfl rfl rfl rfl rfl rfl ⟨rfl, rfl, rfl, rfl, rfl⟩ rfl rfl rfl rfl rfl (by kernel_rfl) Tryz.func7 manyFacts
    (of_decide_eq_true (by kernel_rfl)) (by unfold Func.isWrapper; first | (rw [if_pos (by decide +kernel)]; kernel_rfl) | (rw [if_neg (by decide +kernel)]; exact ⟨rfl, rfl⟩))
    (fun os started H enc _ => many_lifted os started H enc)
theorem consoleMany_card : Rows.ConsoleManyCardSaid :=
  Claim7.holds_tied_plain_at .later [] [.data, .data, .data, .data, .sentinel, .sentinel, .pinned] true (true, "0966db681b2dac368227340724e573454f2b64f4cc95a0c85878498f925b9144") true
    many_said (fun _ h => by cases h) (by kernel_rfl) (fun _ h => by cases h) consoleMany_row_tie rfl ⟨rfl, rfl⟩ (by kernel_rfl) rfl
    (fun f fn hf hfn => by
      obtain rfl : f = 7 := Option.some.inj ((show Tryz.prog.funcNamed "halberd/halberdlaw29.ConsoleMany" = some 7 by kernel_rfl).symm.trans hf) |>.symm
      obtain rfl : fn = Tryz.f7 := (Option.some.inj (Tryz.func7.symm.trans hfn)).symm
      exact ⟨by kernel_rfl, fun j t ht => by
        rw [Tryz.params7] at ht
        have h28 : t = 28 := by
          rcases j with _ | j
          · simpa using ht.symm
          · simp at ht
        subst h28
        exact (show Tryz.prog.wantsStandIn 28 = false by kernel_rfl)⟩)
    (by kernel_rfl)
#print axioms consoleMany_card
end Go.Proofs.YtcjlmfdmfccmmaaGreatDoor
