/- AluDoes: any operation of any two words: the program's answer is the document's, or both refuse. No condition but that the words are words. -/
import Derived.Test.YtdlhapjlpkadnaaRef
set_option linter.unusedVariables false
namespace Go.Proofs.Ytdlhapjlpkadnaa
open Go.RowKit

theorem refdo_all (k : Nat) (hk : k < 28) (a b : Int) (ha : Word a) (hb : Word b) (w : World) : Calls Try.prog 19 #[.int .i64 (opN k), .int .u64 a, .int .u64 b] w (RefYes (doV k a b) w) := by
  by_cases h : k < 18
  · exact refdo_yes k h a b ha hb w
  · obtain ⟨j, rfl⟩ : ∃ j, k = 18 + j := ⟨k - 18, by omega⟩
    exact refdo_low j (by omega) a b ha hb w
theorem does_yes (k : Nat) (hk : k < 28) (a b : Int) (ha : Word a) (hb : Word b) (w : World) :
    Calls Try.prog 5 #[.int .i64 (opN k), .int .u64 a, .int .u64 b] w fun e w' => e = .returned (.bool true) ∧ Below w.heap.size w w' := by
  go_enter Try.func5, Try.ntmps5
  go_wp2_with fail
  refine (do_all k hk a b ha hb _).mono ?_
  rintro e w1 ⟨rfl, hb1⟩
  go_wp2_with fail
  refine (refdo_all k hk a b ha hb _).mono ?_
  rintro e w2 ⟨rfl, hb2⟩
  generalize doV k a b = r
  go_wp2_with fail
  refine (is_none _).mono ?_
  rintro e w3 ⟨rfl, hb3⟩
  go_wp2_with fail
  go_ret
  have hs := hb1.size
  have hs2 := hb2.size
  exact ⟨rfl, ((hb1.trans (hb2.mono hs)).alloc (by omega) _).trans (hb3.mono (by simp; omega))⟩
theorem does_no (op a b : Int) (h : ∀ k, k < 28 → opN k ≠ op) (ha : Word a) (hb : Word b) (w : World) :
    Calls Try.prog 5 #[.int .i64 op, .int .u64 a, .int .u64 b] w fun e w' => e = .returned (.bool true) ∧ Below w.heap.size w w' := by
  have HO := Lib.hid h
  clear h
  go_enter Try.func5, Try.ntmps5
  go_wp2_with fail
  refine (do_no op a b HO.out _).mono ?_
  rintro e w1 ⟨g, rfl, g0, g1, g2, hb1⟩
  have hg := World.block_lt_of_cell? w1 _ g0
  have hs := hb1.size
  go_wp2_with fail
  refine (refdo_no op a b HO.out ha hb _).mono ?_
  rintro e w2 ⟨d, n, rfl, d0, d1, hb2⟩
  have hd := World.block_lt_of_cell? w2 _ d0
  have hs2 := hb2.size
  obtain ⟨hc, _⟩ := bcell hb2
  have q0 := (hc g 0 hg).trans g0
  have q1 := (hc g 1 hg).trans g1
  have q2 := (hc g 2 hg).trans g2
  clear hc g0 g1 g2
  have hg2 : g < w2.heap.size := Nat.lt_of_lt_of_le hg hs2
  go_wp2_with fail
  refine (is_fault g 0 d n ⟨#[97, 108, 117]⟩ 0 40 _ (by simp [go_sem, hg2, q0]) (by simp [go_sem, hg2, q1]) (by simp [go_sem, hg2, q2]) rfl (by simp [go_sem, hd, d0]) (by simp [go_sem, hd, d1])).mono ?_
  rintro e w3 ⟨rfl, hb3⟩
  go_wp2_with fail
  go_ret
  exact ⟨rfl, ((hb1.trans (hb2.mono hs)).alloc (by omega) _).trans (hb3.mono (by simp; omega))⟩
theorem law_does (op a b : Int) (_h : -9223372036854775808 ≤ op) (_h' : op ≤ 9223372036854775807) (ha : 0 ≤ a) (ha' : a ≤ 18446744073709551615) (hb : 0 ≤ b) (hb' : b ≤ 18446744073709551615) (w : World) :
    Calls Try.prog 5 #[.int .i64 op, .int .u64 a, .int .u64 b] w fun e w' => e = .returned (.bool true) ∧ Below w.heap.size w w' := by
  rcases op_place op with ⟨k, hk, rfl⟩ | h
  · exact does_yes k hk a b ⟨ha, ha'⟩ ⟨hb, hb'⟩ w
  · exact does_no op a b h ⟨ha, ha'⟩ ⟨hb, hb'⟩ w
end Go.Proofs.Ytdlhapjlpkadnaa
