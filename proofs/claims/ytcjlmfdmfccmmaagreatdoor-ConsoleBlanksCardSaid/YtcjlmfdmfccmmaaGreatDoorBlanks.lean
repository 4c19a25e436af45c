/- ConsoleBlanks returns true, for all lists and numbers: the tied card. Conditions: the package-level variables that the row lists hold what the card ties them to. -/
import Derived.Test.YtcjlmfdmfccmmaaGreatDoorQ
import Derived.Test.YtcjlmfdmfccmmaaGreatDoorX
import Derived.Test.YtcjlmfdmfccmmaaGreatDoorJ0
import Derived.Test.YtcjlmfdmfccmmaaGreatDoorJ1
import Derived.Test.YtcjlmfdmfccmmaaGreatDoorJ2
import Derived.Test.YtcjlmfdmfccmmaaGreatDoorJ3
import Derived.Test.YtcjlmfdmfccmmaaGreatDoorJ4
import Derived.Test.YtcjlmfdmfccmmaaGreatDoorTie
import Derived.Test.YtcjlmfdmfccmmaaGreatDoorCards
import Derived.ProofKit
import Derived.LaidMore
import Derived.SizedLaws
import Derived.Carry
import Derived.ChangeSlices
import Derived.OpenShut
import Derived.Stop.Joined
namespace Go.Proofs
open Go Go.Hal Go.RowKit Go.Lib Go.Shelf
set_option maxHeartbeats 4000000
set_option maxRecDepth 1000000
theorem Tryz.num_calls (x : Int) (w : World) : Calls Tryz.prog 10 #[.int .i64 x] w fun e w' => e = .returned (.int .i64 x) ∧ w' = w := by
  go_enter Tryz.func10, Tryz.ntmps10
  go_wp2
  go_ret
  exact ⟨rfl, rfl⟩
noncomputable def outS (v4 v5 : Value) (s : ByteArray) : ByteArray := if s.size ≤ 65536 then ⟨(runOut v4 v5 (linesOf s)).toArray⟩ else ⟨#[]⟩
def outE (s : ByteArray) : Int := if s.size ≤ 65536 then 0 else 2901
theorem Tryz.run_any {v4 v5 : Value} {W : World} (G : Glob W v4 v5) {m : Int} (hm : W.cell? ⟨0, 0, none⟩ = some (.int .i64 m)) (s : ByteArray) :
    Calls Tryz.prog 9 #[.string s] W fun e W' => e = .returned (.tuple #[.string (outS v4 v5 s), .int .i64 (outE s)]) ∧ Below W.heap.size W W' := by
  unfold outS outE
  by_cases hs : s.size ≤ 65536
  · rw [if_pos hs, if_pos hs]
    exact Tryz.run_calls G hm s hs
  · rw [if_neg hs, if_neg hs]
    refine (Tryz.run_long s (by omega)).mono ?_
    rintro e w ⟨h, rfl⟩
    exact ⟨h, Below.refl _ _⟩
theorem outE_cases (s : ByteArray) : (outE s = 0 ∧ s.size ≤ 65536) ∨ (outE s = 2901 ∧ 65536 < s.size) := by
  unfold outE
  by_cases hs : s.size ≤ 65536
  · exact .inl ⟨if_pos hs, hs⟩
  · exact .inr ⟨if_neg hs, by omega⟩
theorem mk_append (a b : List UInt8) : (⟨(a ++ b).toArray⟩ : ByteArray) = ⟨a.toArray⟩ ++ ⟨b.toArray⟩ := by
  apply ByteArray.ext
  rw [ByteArray.data_append]
  simp
theorem extract_append_left (a b : ByteArray) : (a ++ b).extract 0 a.size = a := by
  rw [ByteArray.extract_append]
  simp
theorem begins_law (v4 v5 : Value) (a b : ByteArray) (h : (a ++ nl ++ b).size ≤ 65536) : outE (a ++ nl) = 0 ∧ (outS v4 v5 (a ++ nl)).size ≤ (outS v4 v5 (a ++ nl ++ b)).size ∧ (outS v4 v5 (a ++ nl ++ b)).extract 0 (outS v4 v5 (a ++ nl)).size = outS v4 v5 (a ++ nl) := by
  have h1 : (a ++ nl).size ≤ 65536 := by rw [ByteArray.size_append] at h; omega
  unfold outE outS
  rw [if_pos h1, if_pos h1, if_pos h, runOut_nl, runOut_end, mk_append]
  refine ⟨rfl, by rw [ByteArray.size_append]; omega, extract_append_left _ _⟩
theorem Tryz.begins_calls {v4 v5 : Value} {W : World} (G : Glob W v4 v5) {m : Int} (hm : W.cell? ⟨0, 0, none⟩ = some (.int .i64 m)) (a b : ByteArray) (ha : a.size + b.size < 562949953421312) :
    Calls Tryz.prog 3 #[.string a, .string b] W fun e W' => e = .returned (.bool true) ∧ Below W.heap.size W W' := by
  have e8 : ∀ args w, (callFunc 8 args).run Tryz.prog w = .ok (.enter 8 args) w := enters_of Tryz.func8 (by kernel_rfl) rfl
  have e9 : ∀ args w, (callFunc 9 args).run Tryz.prog w = .ok (.enter 9 args) w := enters_of Tryz.func9 (by kernel_rfl) rfl
  have e10 : ∀ args w, (callFunc 10 args).run Tryz.prog w = .ok (.enter 10 args) w := enters_of Tryz.func10 (by kernel_rfl) rfl
  have h8 := G.size
  go_enter Tryz.func3, Tryz.ntmps3
  go_wp2_with (go_at_fn 8; refine (awake_calls G).mono ?_)
  rintro e w1 ⟨rfl, hb1⟩
  have hm1 : w1.cell? ⟨0, 0, none⟩ = some (.int .i64 m) := (hb1.cell (p := ⟨0, 0, none⟩) (by show 0 < W.heap.size; omega)).trans hm
  have G1 := G.below h8 hb1
  go_wp2_with (go_at_fn 9; refine (Tryz.run_any G1 hm1 (a ++ nl)).mono ?_)
  rintro e w2 ⟨rfl, hb2⟩
  have hm2 : w2.cell? ⟨0, 0, none⟩ = some (.int .i64 m) := (hb2.cell (p := ⟨0, 0, none⟩) (by show 0 < w1.heap.size; have := hb1.size; omega)).trans hm1
  have G2 := G1.below (by have := hb1.size; omega) hb2
  have hbx : Below W.heap.size W w2 := hb1.trans (hb2.mono hb1.size)
  have hL := begins_law v4 v5 a b
  have hc1 := outE_cases (a ++ nl ++ b)
  have hc2 : 65536 < (a ++ nl ++ b).size → outS v4 v5 (a ++ nl ++ b) = ⟨#[]⟩ := fun h => by unfold outS; rw [if_neg (by omega)]
  generalize outS v4 v5 (a ++ nl) = x at *
  generalize outE (a ++ nl) = ex at *
  go_wp2_with (go_at_fn 9; refine (Tryz.run_any G2 hm2 (a ++ nl ++ b)).mono ?_)
  rintro e w3 ⟨rfl, hb3⟩
  have hby : Below W.heap.size W w3 := hbx.trans (hb3.mono hbx.size)
  generalize outS v4 v5 (a ++ nl ++ b) = y at *
  generalize outE (a ++ nl ++ b) = ey at *
  rcases hc1 with ⟨rfl, hsz⟩ | ⟨rfl, hsz⟩
  · obtain ⟨rfl, hxy, hex⟩ := hL hsz
    go_wp2
    go_ret
    exact ⟨rfl, hby⟩
  · obtain rfl := hc2 hsz
    have hz : (a ++ nl ++ b).size = a.size + 1 + b.size := by rw [ByteArray.size_append, ByteArray.size_append]; rfl
    go_wp2
    go_ret
    exact ⟨rfl, hby⟩
end Go.Proofs
namespace Go.Proofs
open Go Go.Hal Go.RowKit Go.Lib Go.Shelf
set_option maxHeartbeats 1000000
set_option maxRecDepth 1000000
theorem told2_size {v4 v5 : Value} {W : World} (G : Glob W v4 v5) {x : ByteArray} (hx : XOk x) : (⟨(told2 v4 v5 x).toArray⟩ : ByteArray).size = 162 := by
  have e1 : (tellsOut v4 v5 [wSha, w256, x]).data.toList.length = 64 := by rw [Array.length_toList]; exact size256 G hx
  have e2 : (tellsOut v4 v5 [wSha, w384, x]).data.toList.length = 96 := by rw [Array.length_toList]; exact size384 G hx
  have : (told2 v4 v5 x).length = 162 := by
    unfold told2
    simp only [List.length_append, List.length_singleton, e1, e2]
  rw [← this]
  show (told2 v4 v5 x).toArray.size = _
  simp
theorem Tryz.run_a {v4 v5 : Value} {W : World} (G : Glob W v4 v5) {m : Int} (hm : W.cell? ⟨0, 0, none⟩ = some (.int .i64 m)) {b x : ByteArray} (hb : b ∈ blanksW) (hx : XOk x) :
    Calls Tryz.prog 9 #[.string (⟨#[35, 32, 99, 10, 10]⟩ ++ b ++ ⟨#[115, 104, 97]⟩ ++ b ++ ⟨#[50, 53, 54]⟩ ++ b ++ x ++ b ++ ⟨#[10]⟩ ++ b ++ ⟨#[10, 115, 104, 97]⟩ ++ b ++ ⟨#[51, 56, 52]⟩ ++ b ++ x ++ ⟨#[10]⟩)] W fun e W' => ∃ R, e = .returned (.tuple #[.string R, .int .i64 0]) ∧ R = ⟨(told2 v4 v5 x).toArray⟩ ∧ Below W.heap.size W W' := by
  have h1 := hx.byte.2.1
  have h2 := (blanksW_ok hb).2.2
  have e := script_a v4 v5 hb hx (s := ⟨#[35, 32, 99, 10, 10]⟩ ++ b ++ ⟨#[115, 104, 97]⟩ ++ b ++ ⟨#[50, 53, 54]⟩ ++ b ++ x ++ b ++ ⟨#[10]⟩ ++ b ++ ⟨#[10, 115, 104, 97]⟩ ++ b ++ ⟨#[51, 56, 52]⟩ ++ b ++ x ++ ⟨#[10]⟩) (by simp only [wSha, w256, w384, nl])
  refine (Tryz.run_calls G hm _ ?_).mono ?_
  · simp only [ByteArray.size_append]
    have e1 : (⟨#[35, 32, 99, 10, 10]⟩ : ByteArray).size = 5 := rfl
    have e2 : (⟨#[115, 104, 97]⟩ : ByteArray).size = 3 := rfl
    have e3 : (⟨#[50, 53, 54]⟩ : ByteArray).size = 3 := rfl
    have e4 : (⟨#[10]⟩ : ByteArray).size = 1 := rfl
    have e5 : (⟨#[10, 115, 104, 97]⟩ : ByteArray).size = 4 := rfl
    have e6 : (⟨#[51, 56, 52]⟩ : ByteArray).size = 3 := rfl
    omega
  · rintro r w ⟨hr, hb⟩
    exact ⟨_, hr, by rw [e], hb⟩
theorem Tryz.run_b {v4 v5 : Value} {W : World} (G : Glob W v4 v5) {m : Int} (hm : W.cell? ⟨0, 0, none⟩ = some (.int .i64 m)) {x : ByteArray} (hx : XOk x) :
    Calls Tryz.prog 9 #[.string (⟨#[115, 104, 97, 32, 50, 53, 54, 32]⟩ ++ x ++ ⟨#[10, 115, 104, 97, 32, 51, 56, 52, 32]⟩ ++ x)] W fun e W' => ∃ R, e = .returned (.tuple #[.string R, .int .i64 0]) ∧ R = ⟨(told2 v4 v5 x).toArray⟩ ∧ Below W.heap.size W W' := by
  have h1 := hx.byte.2.1
  have e := script_b v4 v5 hx (s := ⟨#[115, 104, 97, 32, 50, 53, 54, 32]⟩ ++ x ++ ⟨#[10, 115, 104, 97, 32, 51, 56, 52, 32]⟩ ++ x) rfl
  refine (Tryz.run_calls G hm _ ?_).mono ?_
  · simp only [ByteArray.size_append]
    have e1 : (⟨#[115, 104, 97, 32, 50, 53, 54, 32]⟩ : ByteArray).size = 8 := rfl
    have e2 : (⟨#[10, 115, 104, 97, 32, 51, 56, 52, 32]⟩ : ByteArray).size = 9 := rfl
    omega
  · rintro r w ⟨hr, hb⟩
    exact ⟨_, hr, by rw [e], hb⟩
theorem Tryz.hex_any (c : UInt8) (W : World) : Calls Tryz.prog 11 #[.string ⟨#[c]⟩] W fun e W' => ∃ h : ByteArray, e = .returned (.string h) ∧ h.size = 2 ∧ (∀ d ∈ h.data.toList, digB d) ∧ Below W.heap.size W W' :=
  (Tryz.hex_calls c W).mono fun _ _ h => ⟨hexB c, h.1, (hexB_ok c).1, (hexB_ok c).2, h.2⟩
theorem and3 (k : Int) : bits BinOp.and IntKind.i64 k 3 = 0 ∨ bits BinOp.and IntKind.i64 k 3 = 1 ∨ bits BinOp.and IntKind.i64 k 3 = 2 ∨ bits BinOp.and IntKind.i64 k 3 = 3 := by
  have h : bits BinOp.and IntKind.i64 k 3 = IntKind.i64.wrap (bitsK .and .i64 k 3) := rfl
  have h2 : bitsK .and .i64 k 3 = (((BitVec.ofInt 64 k).toNat &&& 3 : Nat) : Int) := by
    simp only [bitsK, BitVec.toNat_and]
    rfl
  have h3 : (BitVec.ofInt 64 k).toNat &&& 3 ≤ 3 := Nat.and_le_right
  rw [h, h2]
  generalize (BitVec.ofInt 64 k).toNat &&& 3 = n at *
  have : n = 0 ∨ n = 1 ∨ n = 2 ∨ n = 3 := by omega
  rcases this with rfl | rfl | rfl | rfl <;> decide
theorem Tryz.blanks_calls {v4 v5 : Value} {W : World} (G : Glob W v4 v5) {m : Int} (hm : W.cell? ⟨0, 0, none⟩ = some (.int .i64 m)) (ao : Option Addr) (len cap : Nat) (Z : Nat → Int) (k : Int) (_hk : (Lit.int .i64 k).wf = true) (_hlen : len < 9223372036854775808)
    (hcell : ∀ i, i < len → ∃ a, ao = some a ∧ W.cell? (a.add i) = some (.int .i64 (Z i)) ∧ (a.add i).block < W.heap.size) :
    Calls Tryz.prog 4 #[.slice ao len cap, .int .i64 k] W fun e W' => e = .returned (.bool true) ∧ Below W.heap.size W W' := by
  have e8 : ∀ args w, (callFunc 8 args).run Tryz.prog w = .ok (.enter 8 args) w := enters_of Tryz.func8 (by kernel_rfl) rfl
  have e9 : ∀ args w, (callFunc 9 args).run Tryz.prog w = .ok (.enter 9 args) w := enters_of Tryz.func9 (by kernel_rfl) rfl
  have e10 : ∀ args w, (callFunc 10 args).run Tryz.prog w = .ok (.enter 10 args) w := enters_of Tryz.func10 (by kernel_rfl) rfl
  have e11 : ∀ args w, (callFunc 11 args).run Tryz.prog w = .ok (.enter 11 args) w := enters_of Tryz.func11 (by kernel_rfl) rfl
  have h8 := G.size
  go_enter Tryz.func4, Tryz.ntmps4
  go_wp2_with (go_at_fn 8; refine (awake_calls G).mono ?_)
  rintro e w1 ⟨rfl, hb1⟩
  have hm1 : w1.cell? ⟨0, 0, none⟩ = some (.int .i64 m) := (hb1.cell (p := ⟨0, 0, none⟩) (by show 0 < W.heap.size; omega)).trans hm
  go_upto_block 0 with (fail)
  go_cut [5] (fun s5 wx => ∃ x, s5 = .string x ∧ x.size % 2 = 0 ∧ x.size ≤ 80 ∧ (∀ c ∈ x.data.toList, digB c) ∧ Below W.heap.size W wx)
  case first =>
    go_wp2
    go_loopg [5, 6] 40 (fun gf s5 s6 wx => ∃ (i : Nat) (x : ByteArray), i + gf = 40 ∧ s6 = .int .i64 i ∧ s5 = .string x ∧ x.size = 2 * i ∧ (∀ c ∈ x.data.toList, digB c) ∧ Below W.heap.size W wx)
    case atStart => exact ⟨0, ⟨#[]⟩, rfl, rfl, rfl, rfl, (fun c hc => by cases hc), hb1⟩
    case round =>
      obtain ⟨i, x, hig, rfl, rfl, hxs, hxd, hbx⟩ := hrel
      cases gk with
      | zero =>
        obtain rfl : i = 40 := by omega
        by_cases h1 : (40 : Int) < (len : Int)
        · go_wp2
          go_meet
          exact ⟨x, rfl, by omega, by omega, hxd, hbx⟩
        · go_wp2
          go_meet
          exact ⟨x, rfl, by omega, by omega, hxd, hbx⟩
      | succ gf =>
        have hi40 : (i : Int) < 40 := by omega
        by_cases h1 : (i : Int) < (len : Int)
        · obtain ⟨a, rfl, hc0, hal⟩ := hcell i (by omega)
          have hc : wr.cell? (a.add i) = some (.int .i64 (Z i)) := (hbx.cell (p := a.add i) hal).trans hc0
          obtain ⟨c, hcc⟩ : ∃ c, c = UInt8.ofNat (Z i % 256).toNat := ⟨_, rfl⟩
          have hcv : (convert 30 9 (.slice (some ⟨wr.heap.size, 0, none⟩) 1 1)).run Tryz.prog (wr.alloc (.cells #[.int .u8 (Z i % 256)] 5)) = .ok (.string ⟨#[c]⟩) (wr.alloc (.cells #[.int .u8 (Z i % 256)] 5)) := by
            rw [hcc]
            refine run_convert_bytes_arg (P := Tryz.prog) (wr.alloc (.cells #[.int .u8 (Z i % 256)] 5)) 30 5 Tryz.underlying30 Tryz.underlying5 wr.heap.size 0 1 1 [Z i % 256] rfl (fun j hj => ?_) 9 Tryz.underlying9
            obtain rfl : j = 0 := by omega
            simp
          clear hcc
          go_wp2_with (go_at_fn 11; refine (Tryz.hex_any c _).mono ?_)
          rintro e w3 ⟨h, rfl, hh1, hh2, hb3⟩
          have hba := hbx.alloc hbx.size (.cells #[.int .u8 (Z i % 256)] 5)
          have hby : Below W.heap.size W w3 := hba.trans (hb3.mono hba.size)
          go_wp2
          go_roundg gf
          case measure => omega
          case rel =>
            refine ⟨i + 1, x ++ h, by omega, rfl, rfl, by rw [ByteArray.size_append]; omega, fun d hd => ?_, hby⟩
            rw [ByteArray.data_append, Array.toList_append] at hd
            rcases List.mem_append.1 hd with hd | hd
            · exact hxd d hd
            · exact hh2 d hd
        · go_wp2
          go_meet
          exact ⟨x, rfl, by omega, by omega, hxd, hbx⟩
  case rest =>
    obtain ⟨x, rfl, hx2, hx80, hxd, hbx⟩ := hcut
    go_upto_if 35 with (fail)
    go_cut [5] (fun s5 wx => ∃ x, s5 = .string x ∧ XOk x ∧ Below W.heap.size W wx)
    case first =>
      by_cases hx0 : x.size = 0
      · have hem : x.toList.isEmpty = true := by
          rw [ByteArray.toList_eq]
          cases hl : x.data.toList with
          | nil => rfl
          | cons c l =>
            have : x.data.toList.length = x.size := Array.length_toList
            rw [hl] at this
            simp at this
            omega
        go_wp2
        all_goals first
          | (go_meet; exact ⟨_, rfl, .inl rfl, hbx⟩)
          | (rename_i hf; exact absurd hf (by rw [hem]; decide))
      · have hne : x.toList.isEmpty = false := by
          rw [ByteArray.toList_eq]
          cases hl : x.data.toList with
          | nil =>
            have : x.data.toList.length = x.size := Array.length_toList
            rw [hl] at this
            exact absurd this.symm hx0
          | cons _ _ => rfl
        go_wp2
        all_goals first
          | (go_meet; exact ⟨x, rfl, .inr ⟨hx2, by omega, hx80, hxd⟩, hbx⟩)
          | (rename_i hf; exact absurd hf (by rw [hne]; decide))
    case rest =>
      clear hbx
      obtain ⟨x, rfl, hx, hbx⟩ := hcut
      go_upto_region 10 with (fail)
      go_cut [7] (fun s7 wx => ∃ b, s7 = .string b ∧ b ∈ blanksW ∧ Below W.heap.size W wx)
      case first =>
        have hba := hbx.alloc hbx.size (.cells #[.string ⟨#[32]⟩, .string ⟨#[9]⟩, .string ⟨#[32, 32]⟩, .string ⟨#[32, 9, 32]⟩] 9)
        rcases and3 k with h | h | h | h
        · go_wp2
          go_meet
          exact ⟨_, rfl, by simp [blanksW], hba⟩
        · go_wp2
          go_meet
          exact ⟨_, rfl, by simp [blanksW], hba⟩
        · go_wp2
          go_meet
          exact ⟨_, rfl, by simp [blanksW], hba⟩
        · go_wp2
          go_meet
          exact ⟨_, rfl, by simp [blanksW], hba⟩
      case rest =>
        clear hbx
        obtain ⟨b, rfl, hb, hbx⟩ := hcut
        have hm2 : wc.cell? ⟨0, 0, none⟩ = some (.int .i64 m) := (hbx.cell (p := ⟨0, 0, none⟩) (by show 0 < W.heap.size; omega)).trans hm
        have G2 := G.below h8 hbx
        have hR := told2_size G hx
        have hx80 := hx.byte.2.1
        have hbs := (blanksW_ok hb).2.2
        go_wp2_with (go_at_fn 9; refine (Tryz.run_a G2 hm2 hb hx).mono ?_)
        rintro e w3 ⟨R, rfl, hRe, hb3⟩
        replace hRe := hRe.symm
        rw [hRe] at hR
        have hm3 : w3.cell? ⟨0, 0, none⟩ = some (.int .i64 m) := (hb3.cell (p := ⟨0, 0, none⟩) (by show 0 < wc.heap.size; have := hbx.size; omega)).trans hm2
        have G3 := G2.below (by have := hbx.size; omega) hb3
        have hby : Below W.heap.size W w3 := hbx.trans (hb3.mono hbx.size)
        go_wp2_with (go_at_fn 9; refine (Tryz.run_b G3 hm3 hx).mono ?_)
        rintro e w4 ⟨R', rfl, hRe', hb4⟩
        obtain rfl : R' = R := hRe'.trans hRe
        have hbz : Below W.heap.size W w4 := hby.trans (hb4.mono hby.size)
        clear hRe hRe'
        go_wp2
        go_ret
        exact ⟨rfl, hbz⟩
end Go.Proofs
namespace Go.Proofs.YtcjlmfdmfccmmaaGreatDoor
open Go Go.Hal Go.ChangeShapes Go.WideShapes Go.ChangeAt Go.RowKit
set_option maxRecDepth 1000000
theorem own : ownKnob Tryz.prog.godebug = none := by kernel_rfl
/-- the door's heap, with Go's own table laid -/
noncomputable def wit (os : Os) : World := { World.doorLaid Tryz.prog 72 os with heap := (World.doorLaid Tryz.prog 72 os).heap.setIfInBounds 1 (.cells ⟨intsV .u8 tabFirst⟩ 190) }
theorem wit_shaped (os : Os) (args : Array Value) : ((wit os).forCall (fun _ _ => 0) ⟨#[], args, []⟩).Shaped Tryz.prog := World.shaped_of_RefB (by kernel_rfl) (by kernel_rfl)
theorem wit_met (os : Os) (args : Array Value) : laidMetH Tryz.prog laid7 ((wit os).forCall (fun _ _ => 0) ⟨#[], args, []⟩).memory :=
  laidMetH_of_parts3 (fuel := 8) (laidMet_of_run' 8 (by kernel_rfl) (by kernel_rfl)) (by kernel_rfl) (by kernel_rfl)
theorem laidOut : laidOutB Tryz.prog = true := by kernel_rfl
theorem cells3 : Tryz.prog.cellsOf 3 = 1 := by kernel_rfl
theorem blanks_lifted (os : Os) (started : os.Started) (H : Type) (enc : TypeId × Value → H) :
    ReturnsInHanded {} Tryz.checked os 4 .any (fun w args => (Rows.consoleBlanksSpec.pre enc Tryz.prog Tryz.f4 [] false w args ∧ laidMetH Tryz.prog laid7 w) ∧ sizedMet enc Tryz.prog Tryz.f4 (OpenSpec.ofChange Rows.consoleBlanksSpec) false w args)
      (Rows.consoleBlanksSpec.post enc Tryz.prog Tryz.f4 false true false false) := by
  refine returnsInHanded_of_calls own started (by kernel_rfl)
    (ChangeSpec.witness_shaped (enc := enc) (C := Tryz.checked) (os := os) (X := fun w _ => laidMetH Tryz.prog laid7 w) false (wit os) #[.slice none 0 0, .int .i64 0] 8 rfl (wit_shaped os _) (by kernel_rfl) (by kernel_rfl) (by kernel_rfl) (wit_met os _)) ?_
  intro w tape i _ hsh _ hok hpre _
  obtain ⟨_, _, _, fn', hfn', _, _, _, _, hval⟩ := hok
  obtain rfl := Option.some.inj (hfn'.symm.trans Tryz.func4)
  obtain ⟨⟨⟨ds, gs, before, hw, _⟩, hx⟩, _⟩ := hpre
  have hW := DataW.Whole.of_heap (w' := w.forCall tape i) (by rfl) hw
  have hX : laidMetH Tryz.prog laid7 (w.forCall tape i) := hx.of_heap (by rfl)
  have hW' := hW
  obtain ⟨p, q, hA0, hV, rfl, _, _⟩ := hW
  have hA : DataW.TrodAll enc Tryz.prog (w.forCall tape i) 0 (fun _ => true) true Tryz.f4.params.toList i.args.toList ds p := hA0
  rw [Tryz.params4] at hA hval
  obtain ⟨v0, v1, d0, d1, p0, p1, ha, rfl, rfl, h0, h1⟩ := trodAll_two hA
  obtain ⟨rfl, rfl⟩ := trodVars_none hV
  obtain ⟨a0, len, cap, rfl⟩ := okWide_slice Tryz.underlying28 (hval 0 28 v0 rfl (by rw [ha]; rfl))
  obtain ⟨k, rfl, rfl, rfl, hk0⟩ := open_int Tryz.underlying3 (hval 1 3 v1 rfl (by rw [ha]; rfl)) h1
  have h0k := h0
  obtain ⟨fuel, hf⟩ := h0
  have hlt : ∀ x ∈ p0, x.block < (w.forCall tape i).heap.size := fun x hx => by simpa using hW'.lt x (by simpa using hx)
  obtain ⟨v4, v5, G⟩ := glob_of hsh hX
  obtain ⟨m, hm⟩ := maxlen_of hsh
  obtain ⟨Z, hlen, hcell⟩ : ∃ Z : Nat → Int, len < 9223372036854775808 ∧ ∀ j, j < len → ∃ a, a0 = some a ∧ (w.forCall tape i).cell? (a.add j) = some (.int .i64 (Z j)) ∧ (a.add j).block < (w.forCall tape i).heap.size := by
    rcases open_ints Tryz.underlying28 Tryz.underlying3 cells3 hf with ⟨hcs, _⟩ | ⟨a, len', cap', zs, hcs, _, hl, hmx, hz, _, hc, _⟩
    · simp [Value.cells] at hcs
      obtain ⟨rfl, rfl, rfl⟩ := hcs
      exact ⟨fun _ => 0, by omega, fun j hj => by omega⟩
    · simp [Value.cells] at hcs
      obtain ⟨rfl, rfl, rfl⟩ := hcs
      simp only [if_true] at hz
      exact ⟨fun j => zs.getD j 0, by unfold maxLen at hmx; omega, fun j hj => ⟨a, rfl, hc j (by omega), World.block_lt_of_cell? _ _ (hc j (by omega))⟩⟩
  have key := Tryz.blanks_calls G hm a0 len cap Z k hk0 hlen hcell
  rw [← ha] at key
  refine key.mono fun e W' ⟨he, hk⟩ => ?_
  subst he
  refine ChangeSpec.post_blind ?_
  refine ⟨_, [], _, [], p0 ++ [], [], hW', trodAll_mk1 (shut_bool Tryz.underlying4 _), ?_, rfl, hk.frame _, fun h => by cases h⟩
  rw [ha, Tryz.params4]
  exact trodAll_mk2 (Below.trod laidOut (by kernel_rfl) (of_decide_eq_true (by kernel_rfl)) h0k hk hlt) (shut_int Tryz.underlying3 hk0)
theorem band {a b : Bool} (ha : a = true) (hb : b = true) : (a && b) = true := by rw [ha, hb]; rfl
theorem blanksFacts : joinedFacts Tryz.pinned.checked.prog 4 Tryz.f4 Rows.consoleBlanksSpec Rows.consoleBlanksRow = true := by
  unfold joinedFacts
  exact (band (band (band (band (band (band (band (band (band (band (band (band (band (band (band (band (band (band (band (band (band (band (band (band (band (band (band (band (band (band (band blanksJ0 blanksJ1) blanksJ2) blanksJ3) blanksJ4) blanksJ5) blanksJ6) blanksJ7) blanksJ8) blanksJ9) blanksJ10) blanksJ11) blanksJ12) blanksJ13) blanksJ14) blanksJ15) blanksJ16) blanksJ17) blanksJ18) blanksJ19) blanksJ20) blanksJ21) blanksJ22) blanksJ23) blanksJ24) blanksJ25) blanksJ26) blanksJ27) blanksJ28) blanksJ29) blanksJ30) blanksJ31)
theorem blanks_said : Rows.ConsoleBlanksSaid :=
  OpenClaim.holds_of_wide 4 Tryz.f4 rfl rfl rfl rfl rfl rfl rfl ⟨rfl, rfl, rfl, rfl, rfl⟩ rfl rfl rfl rfl rfl (by kernel_rfl) Tryz.func4 blanksFacts
    (of_decide_eq_true (by kernel_rfl)) (by unfold Func.isWrapper; first | (rw [if_pos (by decide +kernel)]; kernel_rfl) | (rw [if_neg (by decide +kernel)]; exact ⟨rfl, rfl⟩))
    (fun os started H enc _ => blanks_lifted os started H enc)
theorem consoleBlanks_card : Rows.ConsoleBlanksCardSaid :=
  Claim7.holds_tied_plain_at .later [] [.data, .data, .data, .data, .sentinel, .sentinel, .pinned] true (true, "0966db681b2dac368227340724e573454f2b64f4cc95a0c85878498f925b9144") true
    blanks_said (fun _ h => by cases h) (by kernel_rfl) (fun _ h => by cases h) consoleBlanks_row_tie rfl ⟨rfl, rfl⟩ (by kernel_rfl) rfl
    (fun f fn hf hfn => by
      obtain rfl : f = 4 := Option.some.inj ((show Tryz.prog.funcNamed "halberd/halberdlaw29.ConsoleBlanks" = some 4 by kernel_rfl).symm.trans hf) |>.symm
      obtain rfl : fn = Tryz.f4 := (Option.some.inj (Tryz.func4.symm.trans hfn)).symm
      exact ⟨by kernel_rfl, fun j t ht => by
        rw [Tryz.params4] at ht
        have h28 : t = 28 ∨ t = 3 := by
          rcases j with _ | _ | j
          · exact .inl (by simpa using ht.symm)
          · exact .inr (by simpa using ht.symm)
          · simp at ht
        rcases h28 with rfl | rfl
        · exact (show Tryz.prog.wantsStandIn 28 = false by kernel_rfl)
        · exact (show Tryz.prog.wantsStandIn 3 = false by kernel_rfl)⟩)
    (by kernel_rfl)
#print axioms consoleBlanks_card
end Go.Proofs.YtcjlmfdmfccmmaaGreatDoor
