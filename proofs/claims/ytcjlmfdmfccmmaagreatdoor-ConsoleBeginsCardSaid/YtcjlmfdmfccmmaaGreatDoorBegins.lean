/- ConsoleBegins returns true, for all strings: the tied card. Conditions: the package-level variables that the row lists hold what the card ties them to. -/
import Derived.Test.YtcjlmfdmfccmmaaGreatDoorQ
import Derived.Test.YtcjlmfdmfccmmaaGreatDoorJ0
import Derived.Test.YtcjlmfdmfccmmaaGreatDoorJ1
import Derived.Test.YtcjlmfdmfccmmaaGreatDoorJ2
import Derived.Test.YtcjlmfdmfccmmaaGreatDoorJ3
import Derived.Test.YtcjlmfdmfccmmaaGreatDoorJ4
import Derived.Test.YtcjlmfdmfccmmaaGreatDoorTie
import Derived.Test.YtcjlmfdmfccmmaaGreatDoorCards
import Derived.ProofKit
import Derived.LaidMore
import Derived.SizedLaws
import Derived.OpenShut
import Derived.Stop.Joined
namespace Go.Proofs
open Go Go.Hal Go.RowKit Go.Lib Go.Shelf
set_option maxHeartbeats 4000000
set_option maxRecDepth 1000000
theorem Tryz.num_calls (x : Int) (w : World) : Calls Tryz.prog 10 #[.int .i64 x] w fun e w' => e = .returned (.int .i64 x) ∧ w' = w := by
  go_enter Tryz.func10, Tryz.ntmps10
  go_wp2
  go_ret
  exact ⟨rfl, rfl⟩
noncomputable def outS (v4 v5 : Value) (s : ByteArray) : ByteArray := if s.size ≤ 65536 then ⟨(runOut v4 v5 (linesOf s)).toArray⟩ else ⟨#[]⟩
def outE (s : ByteArray) : Int := if s.size ≤ 65536 then 0 else 2901
theorem Tryz.run_any {v4 v5 : Value} {W : World} (G : Glob W v4 v5) {m : Int} (hm : W.cell? ⟨0, 0, none⟩ = some (.int .i64 m)) (s : ByteArray) :
    Calls Tryz.prog 9 #[.string s] W fun e W' => e = .returned (.tuple #[.string (outS v4 v5 s), .int .i64 (outE s)]) ∧ Below W.heap.size W W' := by
  unfold outS outE
  by_cases hs : s.size ≤ 65536
  · rw [if_pos hs, if_pos hs]
    exact Tryz.run_calls G hm s hs
  · rw [if_neg hs, if_neg hs]
    refine (Tryz.run_long s (by omega)).mono ?_
    rintro e w ⟨h, rfl⟩
    exact ⟨h, Below.refl _ _⟩
theorem outE_cases (s : ByteArray) : (outE s = 0 ∧ s.size ≤ 65536) ∨ (outE s = 2901 ∧ 65536 < s.size) := by
  unfold outE
  by_cases hs : s.size ≤ 65536
  · exact .inl ⟨if_pos hs, hs⟩
  · exact .inr ⟨if_neg hs, by omega⟩
theorem mk_append (a b : List UInt8) : (⟨(a ++ b).toArray⟩ : ByteArray) = ⟨a.toArray⟩ ++ ⟨b.toArray⟩ := by
  apply ByteArray.ext
  rw [ByteArray.data_append]
  simp
theorem extract_append_left (a b : ByteArray) : (a ++ b).extract 0 a.size = a := by
  rw [ByteArray.extract_append]
  simp
theorem begins_law (v4 v5 : Value) (a b : ByteArray) (h : (a ++ nl ++ b).size ≤ 65536) : outE (a ++ nl) = 0 ∧ (outS v4 v5 (a ++ nl)).size ≤ (outS v4 v5 (a ++ nl ++ b)).size ∧ (outS v4 v5 (a ++ nl ++ b)).extract 0 (outS v4 v5 (a ++ nl)).size = outS v4 v5 (a ++ nl) := by
  have h1 : (a ++ nl).size ≤ 65536 := by rw [ByteArray.size_append] at h; omega
  unfold outE outS
  rw [if_pos h1, if_pos h1, if_pos h, runOut_nl, runOut_end, mk_append]
  refine ⟨rfl, by rw [ByteArray.size_append]; omega, extract_append_left _ _⟩
theorem Tryz.begins_calls {v4 v5 : Value} {W : World} (G : Glob W v4 v5) {m : Int} (hm : W.cell? ⟨0, 0, none⟩ = some (.int .i64 m)) (a b : ByteArray) (ha : a.size + b.size < 562949953421312) :
    Calls Tryz.prog 3 #[.string a, .string b] W fun e W' => e = .returned (.bool true) ∧ Below W.heap.size W W' := by
  have e8 : ∀ args w, (callFunc 8 args).run Tryz.prog w = .ok (.enter 8 args) w := enters_of Tryz.func8 (by kernel_rfl) rfl
  have e9 : ∀ args w, (callFunc 9 args).run Tryz.prog w = .ok (.enter 9 args) w := enters_of Tryz.func9 (by kernel_rfl) rfl
  have e10 : ∀ args w, (callFunc 10 args).run Tryz.prog w = .ok (.enter 10 args) w := enters_of Tryz.func10 (by kernel_rfl) rfl
  have h8 := G.size
  go_enter Tryz.func3, Tryz.ntmps3
  go_wp2_with (go_at_fn 8; refine (awake_calls G).mono ?_)
  rintro e w1 ⟨rfl, hb1⟩
  have hm1 : w1.cell? ⟨0, 0, none⟩ = some (.int .i64 m) := (hb1.cell (p := ⟨0, 0, none⟩) (by show 0 < W.heap.size; omega)).trans hm
  have G1 := G.below h8 hb1
  go_wp2_with (go_at_fn 9; refine (Tryz.run_any G1 hm1 (a ++ nl)).mono ?_)
  rintro e w2 ⟨rfl, hb2⟩
  have hm2 : w2.cell? ⟨0, 0, none⟩ = some (.int .i64 m) := (hb2.cell (p := ⟨0, 0, none⟩) (by show 0 < w1.heap.size; have := hb1.size; omega)).trans hm1
  have G2 := G1.below (by have := hb1.size; omega) hb2
  have hbx : Below W.heap.size W w2 := hb1.trans (hb2.mono hb1.size)
  have hL := begins_law v4 v5 a b
  have hc1 := outE_cases (a ++ nl ++ b)
  have hc2 : 65536 < (a ++ nl ++ b).size → outS v4 v5 (a ++ nl ++ b) = ⟨#[]⟩ := fun h => by unfold outS; rw [if_neg (by omega)]
  generalize outS v4 v5 (a ++ nl) = x at *
  generalize outE (a ++ nl) = ex at *
  go_wp2_with (go_at_fn 9; refine (Tryz.run_any G2 hm2 (a ++ nl ++ b)).mono ?_)
  rintro e w3 ⟨rfl, hb3⟩
  have hby : Below W.heap.size W w3 := hbx.trans (hb3.mono hbx.size)
  generalize outS v4 v5 (a ++ nl ++ b) = y at *
  generalize outE (a ++ nl ++ b) = ey at *
  rcases hc1 with ⟨rfl, hsz⟩ | ⟨rfl, hsz⟩
  · obtain ⟨rfl, hxy, hex⟩ := hL hsz
    go_wp2
    go_ret
    exact ⟨rfl, hby⟩
  · obtain rfl := hc2 hsz
    have hz : (a ++ nl ++ b).size = a.size + 1 + b.size := by rw [ByteArray.size_append, ByteArray.size_append]; rfl
    go_wp2
    go_ret
    exact ⟨rfl, hby⟩
end Go.Proofs
namespace Go.Proofs.YtcjlmfdmfccmmaaGreatDoor
open Go Go.Hal Go.ChangeShapes Go.WideShapes Go.ChangeAt Go.RowKit
set_option maxRecDepth 1000000
theorem own : ownKnob Tryz.prog.godebug = none := by kernel_rfl
/-- the door's heap, with Go's own table laid -/
noncomputable def wit (os : Os) : World := { World.doorLaid Tryz.prog 72 os with heap := (World.doorLaid Tryz.prog 72 os).heap.setIfInBounds 1 (.cells ⟨intsV .u8 tabFirst⟩ 190) }
theorem wit_shaped (os : Os) (args : Array Value) : ((wit os).forCall (fun _ _ => 0) ⟨#[], args, []⟩).Shaped Tryz.prog := World.shaped_of_RefB (by kernel_rfl) (by kernel_rfl)
theorem wit_met (os : Os) (args : Array Value) : laidMetH Tryz.prog laid7 ((wit os).forCall (fun _ _ => 0) ⟨#[], args, []⟩).memory :=
  laidMetH_of_parts3 (fuel := 8) (laidMet_of_run' 8 (by kernel_rfl) (by kernel_rfl)) (by kernel_rfl) (by kernel_rfl)
theorem begins_lifted (os : Os) (started : os.Started) (H : Type) (enc : TypeId × Value → H) :
    ReturnsInHanded {} Tryz.checked os 3 .any (fun w args => (Rows.consoleBeginsSpec.pre enc Tryz.prog Tryz.f3 [] false w args ∧ laidMetH Tryz.prog laid7 w) ∧ sizedMet enc Tryz.prog Tryz.f3 (OpenSpec.ofChange Rows.consoleBeginsSpec) false w args)
      (Rows.consoleBeginsSpec.post enc Tryz.prog Tryz.f3 false true false false) := by
  refine returnsInHanded_of_calls own started (by kernel_rfl)
    (ChangeSpec.witness_shaped (enc := enc) (C := Tryz.checked) (os := os) (X := fun w _ => laidMetH Tryz.prog laid7 w) false (wit os) #[.string ⟨#[]⟩, .string ⟨#[]⟩] 8 rfl (wit_shaped os _) (by kernel_rfl) (by kernel_rfl) (by kernel_rfl) (wit_met os _)) ?_
  intro w tape i _ hsh _ hok hpre _
  obtain ⟨_, _, _, fn', hfn', _, _, _, _, hval⟩ := hok
  obtain rfl := Option.some.inj (hfn'.symm.trans Tryz.func3)
  obtain ⟨⟨⟨ds, gs, before, hw, _⟩, hx⟩, hsz⟩ := hpre
  have hwt := sizedMet.weights hsz hw
  have hW := DataW.Whole.of_heap (w' := w.forCall tape i) (by rfl) hw
  have hX : laidMetH Tryz.prog laid7 (w.forCall tape i) := hx.of_heap (by rfl)
  have hW' := hW
  obtain ⟨p, q, hA0, hV, rfl, _, _⟩ := hW
  have hA : DataW.TrodAll enc Tryz.prog (w.forCall tape i) 0 (fun _ => true) true Tryz.f3.params.toList i.args.toList ds p := hA0
  rw [Tryz.params3] at hA hval hwt
  obtain ⟨v0, v1, d0, d1, p0, p1, ha, rfl, rfl, h0, h1⟩ := trodAll_two hA
  obtain ⟨rfl, rfl⟩ := trodVars_none hV
  obtain ⟨x, rfl, rfl, rfl, hx0⟩ := Go.ChangeMaps.open_string Tryz.underlying9 (hval 0 9 v0 rfl (by rw [ha]; rfl)) h0
  obtain ⟨y, rfl, rfl, rfl, hy0⟩ := Go.ChangeMaps.open_string Tryz.underlying9 (hval 1 9 v1 rfl (by rw [ha]; rfl)) h1
  have sx : x.size < 140737488355328 := Nat.lt_of_le_of_lt (Go.sized_string hwt (j := 0) rfl rfl) Go.reachBytes_lt
  have sy : y.size < 140737488355328 := Nat.lt_of_le_of_lt (Go.sized_string hwt (j := 1) rfl rfl) Go.reachBytes_lt
  obtain ⟨v4, v5, G⟩ := glob_of hsh hX
  obtain ⟨m, hm⟩ := maxlen_of hsh
  have key := Tryz.begins_calls G hm x y (by omega)
  rw [← ha] at key
  refine key.mono fun e W' ⟨he, hk⟩ => ?_
  subst he
  refine ChangeSpec.post_blind ?_
  refine ⟨_, [], _, [], [], [], hW', trodAll_mk1 (shut_bool Tryz.underlying4 _), ?_, rfl, hk.frame _, fun h => by cases h⟩
  rw [ha, Tryz.params3]
  exact trodAll_mk2 (Go.ChangeMaps.shut_string Tryz.underlying9 hx0) (Go.ChangeMaps.shut_string Tryz.underlying9 hy0)
theorem band {a b : Bool} (ha : a = true) (hb : b = true) : (a && b) = true := by rw [ha, hb]; rfl
theorem beginsFacts : joinedFacts Tryz.pinned.checked.prog 3 Tryz.f3 Rows.consoleBeginsSpec Rows.consoleBeginsRow = true := by
  unfold joinedFacts
  exact (band (band (band (band (band (band (band (band (band (band (band (band (band (band (band (band (band (band (band (band (band (band (band (band (band (band (band (band (band (band (band beginsJ0 beginsJ1) beginsJ2) beginsJ3) beginsJ4) beginsJ5) beginsJ6) beginsJ7) beginsJ8) beginsJ9) beginsJ10) beginsJ11) beginsJ12) beginsJ13) beginsJ14) beginsJ15) beginsJ16) beginsJ17) beginsJ18) beginsJ19) beginsJ20) beginsJ21) beginsJ22) beginsJ23) beginsJ24) beginsJ25) beginsJ26) beginsJ27) beginsJ28) beginsJ29) beginsJ30) beginsJ31)
theorem begins_said : Rows.ConsoleBeginsSaid :=
  OpenClaim.holds_of_wide 3 Tryz.f3 rfl rfl rfl rfl rfl rfl rfl ⟨rfl, rfl, rfl, rfl, rfl⟩ rfl rfl rfl rfl rfl (by kernel_rfl) Tryz.func3 beginsFacts
    (of_decide_eq_true (by kernel_rfl)) (by unfold Func.isWrapper; first | (rw [if_pos (by decide +kernel)]; kernel_rfl) | (rw [if_neg (by decide +kernel)]; exact ⟨rfl, rfl⟩))
    (fun os started H enc _ => begins_lifted os started H enc)
theorem consoleBegins_card : Rows.ConsoleBeginsCardSaid :=
  Claim7.holds_tied_plain_at .later [] [.data, .data, .data, .data, .sentinel, .sentinel, .pinned] true (true, "0966db681b2dac368227340724e573454f2b64f4cc95a0c85878498f925b9144") true
    begins_said (fun _ h => by cases h) (by kernel_rfl) (fun _ h => by cases h) consoleBegins_row_tie rfl ⟨rfl, rfl⟩ (by kernel_rfl) rfl
    (fun f fn hf hfn => by
      obtain rfl : f = 3 := Option.some.inj ((show Tryz.prog.funcNamed "halberd/halberdlaw29.ConsoleBegins" = some 3 by kernel_rfl).symm.trans hf) |>.symm
      obtain rfl : fn = Tryz.f3 := (Option.some.inj (Tryz.func3.symm.trans hfn)).symm
      exact ⟨by kernel_rfl, fun j t ht => by
        rw [Tryz.params3] at ht
        have h9 : t = 9 := by
          rcases j with _ | _ | j
          · simpa using ht.symm
          · simpa using ht.symm
          · simp at ht
        subst h9
        exact (show Tryz.prog.wantsStandIn 9 = false by kernel_rfl)⟩)
    (by kernel_rfl)
#print axioms consoleBegins_card
end Go.Proofs.YtcjlmfdmfccmmaaGreatDoor
