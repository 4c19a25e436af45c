/- ConsoleWrong returns true, for every number: the tied card. Conditions: the package-level variables that the row lists hold what the card ties them to. -/
import Derived.Test.YtcjlmfdmfccmmaaGreatDoorR
import Derived.Test.YtcjlmfdmfccmmaaGreatDoorWC
import Derived.Test.YtcjlmfdmfccmmaaGreatDoorJ0
import Derived.Test.YtcjlmfdmfccmmaaGreatDoorJ1
import Derived.Test.YtcjlmfdmfccmmaaGreatDoorJ2
import Derived.Test.YtcjlmfdmfccmmaaGreatDoorJ3
import Derived.Test.YtcjlmfdmfccmmaaGreatDoorJ4
import Derived.Test.YtcjlmfdmfccmmaaGreatDoorTie
import Derived.Test.YtcjlmfdmfccmmaaGreatDoorCards
import Derived.ProofKit
import Derived.LaidMore
import Derived.OpenShut
import Derived.Stop.Joined
namespace Go.Proofs.YtcjlmfdmfccmmaaGreatDoor
open Go Go.Hal Go.ChangeShapes Go.WideShapes Go.ChangeAt Go.RowKit
set_option maxRecDepth 1000000

theorem own : ownKnob Tryz.prog.godebug = none := by kernel_rfl
/-- the door's heap, with Go's own table laid -/
noncomputable def wit (os : Os) : World := { World.doorLaid Tryz.prog 72 os with heap := (World.doorLaid Tryz.prog 72 os).heap.setIfInBounds 1 (.cells ⟨intsV .u8 tabFirst⟩ 190) }
theorem wit_shaped (os : Os) (args : Array Value) : ((wit os).forCall (fun _ _ => 0) ⟨#[], args, []⟩).Shaped Tryz.prog := World.shaped_of_RefB (by kernel_rfl) (by kernel_rfl)
theorem wit_met (os : Os) (args : Array Value) : laidMetH Tryz.prog laid7 ((wit os).forCall (fun _ _ => 0) ⟨#[], args, []⟩).memory :=
  laidMetH_of_parts3 (fuel := 8) (laidMet_of_run' 8 (by kernel_rfl) (by kernel_rfl)) (by kernel_rfl) (by kernel_rfl)
/-- from what the analyser says of a function that answers true -/
theorem says_ctx {lo hi x : Int} (hl : lo ≤ x) (hh : x ≤ hi) : ∀ r : Pt, r.n = 3 → r.η.int 2 = x → r.All fun η => (⟨3, setBnds [(2, lo, hi)] .nil, [], []⟩ : Ctx).Says η.int := fun r hn hx η hη => by
  have e : η.int 2 = x := by rw [← (hη 2 (by omega)).1]; exact hx
  refine ⟨fun a l u hb => ?_, (fun g e hm => by cases hm), (fun x m q hm => by cases hm)⟩
  simp only [setBnds, Tr.get_set, Tr.get_nil] at hb
  split at hb
  · rename_i ha
    cases hb
    subst ha
    rw [e]; exact ⟨hl, hh⟩
  · cases hb
theorem wrong_calls {W : World} (hs : W.ShapedOpen Tryz.prog) (hl : laidMetH Tryz.prog laid7 W) {x : Int} (h1 : -9223372036854775808 ≤ x) (h2 : x ≤ 9223372036854775807) :
    Calls Tryz.prog 6 #[.int .i64 x] W fun e W' => e = .returned (.bool true) ∧ W.keptBut W' (fun _ => False) := by
  obtain ⟨v4, v5, G⟩ := glob_of hs hl
  let r : Pt := ⟨3, ⟨fun _ => x, fun _ => ⟨#[]⟩, fun a => if a = 0 then [v4] else [v5], fun _ => (#[], 0)⟩⟩
  have hR : RelH r sig7 tr9 64 W := rel_of G (r := r) (by show 2 ≤ 3; omega) rfl rfl
  have hd : r.All fun ζ => DenVs ζ sig7 k72f6.args (#[.int .i64 x] : Array Value).toList := fun ζ hζ => by
    have e : ζ.int 2 = x := by rw [← (hζ 2 (by show 2 < 3; omega)).1]
    refine ⟨⟨?_, ?_⟩, trivial⟩
    · simp [Lin.ev, Lin.evTs, e]
    · simp [Lin.ev, Lin.evTs, e, inK, kmin, kmax, h1, h2]
  obtain ⟨post, hp, r', hr, hn, _, _, H⟩ := wrong_ok r ⟨rfl, says_ctx h1 h2 r rfl rfl⟩ ⟨sig7, W, #[.int .i64 x], hd, hR⟩
  obtain ⟨_, hc⟩ := H sig7 W #[.int .i64 x] hd hR
  obtain rfl := List.mem_singleton.1 hp
  refine hc.mono fun e W' ⟨v, he, τ', hst, hv, hR'⟩ => ⟨?_, (stays G (r := r) (by show 2 ≤ 3; omega) rfl rfl hr hst hR' fun _ _ _ => rfl).2⟩
  rw [he]
  have : v = .bool true := hv.self
  rw [this]
theorem wrong_lifted (os : Os) (started : os.Started) (H : Type) (enc : TypeId × Value → H) :
    ReturnsInHanded {} Tryz.checked os 6 .any (fun w args => (Rows.consoleWrongSpec.pre enc Tryz.prog Tryz.f6 [] false w args ∧ laidMetH Tryz.prog laid7 w) ∧ sizedMet enc Tryz.prog Tryz.f6 (OpenSpec.ofChange Rows.consoleWrongSpec) false w args)
      (Rows.consoleWrongSpec.post enc Tryz.prog Tryz.f6 false true false false) := by
  refine returnsInHanded_of_calls own started (by kernel_rfl)
    (ChangeSpec.witness_shaped (enc := enc) (C := Tryz.checked) (os := os) (X := fun w _ => laidMetH Tryz.prog laid7 w) false (wit os) #[.int .i64 0] 8 rfl (wit_shaped os _) (by kernel_rfl) (by kernel_rfl) (by kernel_rfl) (wit_met os _)) ?_
  intro w tape i _ hsh _ hok hpre _
  obtain ⟨_, _, _, fn', hfn', _, _, _, _, hval⟩ := hok
  obtain rfl := Option.some.inj (hfn'.symm.trans Tryz.func6)
  obtain ⟨⟨⟨ds, gs, before, hw, _⟩, hx⟩, _⟩ := hpre
  have hW := DataW.Whole.of_heap (w' := w.forCall tape i) (by rfl) hw
  have hX : laidMetH Tryz.prog laid7 (w.forCall tape i) := hx.of_heap (by rfl)
  have hW' := hW
  obtain ⟨p, q, hA0, hV, rfl, _, _⟩ := hW
  have hA : DataW.TrodAll enc Tryz.prog (w.forCall tape i) 0 (fun _ => true) true Tryz.f6.params.toList i.args.toList ds p := hA0
  rw [Tryz.params6] at hA hval
  obtain ⟨v0, d0, ha, rfl, h0⟩ := trodAll_one hA
  obtain ⟨rfl, rfl⟩ := trodVars_none hV
  obtain ⟨x, rfl, rfl, rfl, hwf⟩ := open_int Tryz.underlying3 (hval 0 3 v0 rfl (by rw [ha]; rfl)) h0
  have hb : -9223372036854775808 ≤ x ∧ x ≤ 9223372036854775807 := by
    simpa [Lit.wf, IntKind.min, IntKind.max, IntKind.signed, IntKind.bits] using hwf
  have key := wrong_calls hsh hX hb.1 hb.2
  rw [← ha] at key
  refine key.mono fun e W' ⟨he, hk⟩ => ?_
  subst he
  refine ChangeSpec.post_blind ?_
  refine ⟨[.lit (.int .i64 x)], [], _, [], [], [], hW', trodAll_mk1 (shut_bool Tryz.underlying4 _), ?_, rfl, World.keptBut_mono (fun _ h => h.elim) hk, fun h => by cases h⟩
  rw [ha, Tryz.params6]
  exact trodAll_mk1 (shut_int Tryz.underlying3 hwf)
theorem band {a b : Bool} (ha : a = true) (hb : b = true) : (a && b) = true := by rw [ha, hb]; rfl
theorem wrongFacts : joinedFacts Tryz.pinned.checked.prog 6 Tryz.f6 Rows.consoleWrongSpec Rows.consoleWrongRow = true := by
  unfold joinedFacts
  exact (band (band (band (band (band (band (band (band (band (band (band (band (band (band (band (band (band (band (band (band (band (band (band (band (band (band (band (band (band (band (band wrongJ0 wrongJ1) wrongJ2) wrongJ3) wrongJ4) wrongJ5) wrongJ6) wrongJ7) wrongJ8) wrongJ9) wrongJ10) wrongJ11) wrongJ12) wrongJ13) wrongJ14) wrongJ15) wrongJ16) wrongJ17) wrongJ18) wrongJ19) wrongJ20) wrongJ21) wrongJ22) wrongJ23) wrongJ24) wrongJ25) wrongJ26) wrongJ27) wrongJ28) wrongJ29) wrongJ30) wrongJ31)

theorem wrong_said : Rows.ConsoleWrongSaid :=
  OpenClaim.holds_of_wide 6 Tryz.f6 rfl rfl rfl rfl rfl rfl rfl ⟨rfl, rfl, rfl, rfl, rfl⟩ rfl rfl rfl rfl rfl (by kernel_rfl) Tryz.func6 wrongFacts
    (of_decide_eq_true (by kernel_rfl)) (by unfold Func.isWrapper; first | (rw [if_pos (by decide +kernel)]; kernel_rfl) | (rw [if_neg (by decide +kernel)]; exact ⟨rfl, rfl⟩))
    (fun os started H enc _ => wrong_lifted os started H enc)
theorem consoleWrong_card : Rows.ConsoleWrongCardSaid :=
  Claim7.holds_tied_plain_at .later [] [.data, .data, .data, .data, .sentinel, .sentinel, .pinned] true (true, "0966db681b2dac368227340724e573454f2b64f4cc95a0c85878498f925b9144") true
    wrong_said (fun _ h => by cases h) (by kernel_rfl) (fun _ h => by cases h) consoleWrong_row_tie rfl ⟨rfl, rfl⟩ (by kernel_rfl) rfl
    (fun f fn hf hfn => by
      obtain rfl : f = 6 := Option.some.inj ((show Tryz.prog.funcNamed "halberd/halberdlaw29.ConsoleWrong" = some 6 by kernel_rfl).symm.trans hf) |>.symm
      obtain rfl : fn = Tryz.f6 := (Option.some.inj (Tryz.func6.symm.trans hfn)).symm
      exact ⟨by kernel_rfl, fun j t ht => by
        rw [Tryz.params6] at ht
        have h3 : t = 3 := by
          rcases j with _ | j
          · simpa using ht.symm
          · simp at ht
        subst h3
        exact (show Tryz.prog.wantsStandIn 3 = false by kernel_rfl)⟩)
    (by kernel_rfl)
#print axioms consoleWrong_card
end Go.Proofs.YtcjlmfdmfccmmaaGreatDoor
