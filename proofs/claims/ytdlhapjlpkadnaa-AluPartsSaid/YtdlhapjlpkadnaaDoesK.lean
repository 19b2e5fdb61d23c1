/- The statement's own 'does' over any operation: what it reckons, and that it is one. -/
import Derived.Test.YtdlhapjlpkadnaaDo
set_option linter.unusedVariables false
namespace Go.Proofs.Ytdlhapjlpkadnaa
open Go.RowKit
def DoesP (v : Int) (w : World) (e : Ending) (w' : World) : Prop := e = .returned (.tuple #[.int .u64 v, .bool true]) ∧ Below w.heap.size w w'
theorem does_any (k : Nat) (hk : k < 28) (a b : Int) (ha : Word a) (hb : Word b) (w : World) : Calls Try.prog 20 #[.int .i64 (opN k), .int .u64 a, .int .u64 b] w (DoesP (doV k a b) w) := by
  go_enter Try.func20, Try.ntmps20
  go_wp2_with fail
  refine (do_all k hk a b ha hb _).mono ?_
  rintro e w1 ⟨rfl, hb1⟩
  go_wp2_with fail
  go_quiet (fail)
  go_wp2
  go_ret2
  exact ⟨rfl, below_drewN hb1 _⟩
theorem does_0 (a b : Int) (ha : Word a) (hb : Word b) (w : World) : Calls Try.prog 20 #[.int .i64 31, .int .u64 a, .int .u64 b] w (DoesP (doV 0 a b) w) := does_any 0 (by omega) a b ha hb w
theorem does_1 (a b : Int) (ha : Word a) (hb : Word b) (w : World) : Calls Try.prog 20 #[.int .i64 32, .int .u64 a, .int .u64 b] w (DoesP (doV 1 a b) w) := does_any 1 (by omega) a b ha hb w
theorem does_2 (a b : Int) (ha : Word a) (hb : Word b) (w : World) : Calls Try.prog 20 #[.int .i64 36, .int .u64 a, .int .u64 b] w (DoesP (doV 2 a b) w) := does_any 2 (by omega) a b ha hb w
theorem does_3 (a b : Int) (ha : Word a) (hb : Word b) (w : World) : Calls Try.prog 20 #[.int .i64 39, .int .u64 a, .int .u64 b] w (DoesP (doV 3 a b) w) := does_any 3 (by omega) a b ha hb w
theorem does_4 (a b : Int) (ha : Word a) (hb : Word b) (w : World) : Calls Try.prog 20 #[.int .i64 40, .int .u64 a, .int .u64 b] w (DoesP (doV 4 a b) w) := does_any 4 (by omega) a b ha hb w
theorem does_5 (a b : Int) (ha : Word a) (hb : Word b) (w : World) : Calls Try.prog 20 #[.int .i64 33, .int .u64 a, .int .u64 b] w (DoesP (doV 5 a b) w) := does_any 5 (by omega) a b ha hb w
theorem does_6 (a b : Int) (ha : Word a) (hb : Word b) (w : World) : Calls Try.prog 20 #[.int .i64 37, .int .u64 a, .int .u64 b] w (DoesP (doV 6 a b) w) := does_any 6 (by omega) a b ha hb w
theorem does_7 (a b : Int) (ha : Word a) (hb : Word b) (w : World) : Calls Try.prog 20 #[.int .i64 38, .int .u64 a, .int .u64 b] w (DoesP (doV 7 a b) w) := does_any 7 (by omega) a b ha hb w
theorem does_8 (a b : Int) (ha : Word a) (hb : Word b) (w : World) : Calls Try.prog 20 #[.int .i64 34, .int .u64 a, .int .u64 b] w (DoesP (doV 8 a b) w) := does_any 8 (by omega) a b ha hb w
theorem does_9 (a b : Int) (ha : Word a) (hb : Word b) (w : World) : Calls Try.prog 20 #[.int .i64 35, .int .u64 a, .int .u64 b] w (DoesP (doV 9 a b) w) := does_any 9 (by omega) a b ha hb w
theorem does_10 (a b : Int) (ha : Word a) (hb : Word b) (w : World) : Calls Try.prog 20 #[.int .i64 50, .int .u64 a, .int .u64 b] w (DoesP (doV 10 a b) w) := does_any 10 (by omega) a b ha hb w
theorem does_11 (a b : Int) (ha : Word a) (hb : Word b) (w : World) : Calls Try.prog 20 #[.int .i64 51, .int .u64 a, .int .u64 b] w (DoesP (doV 11 a b) w) := does_any 11 (by omega) a b ha hb w
theorem does_12 (a b : Int) (ha : Word a) (hb : Word b) (w : World) : Calls Try.prog 20 #[.int .i64 53, .int .u64 a, .int .u64 b] w (DoesP (doV 12 a b) w) := does_any 12 (by omega) a b ha hb w
theorem does_13 (a b : Int) (ha : Word a) (hb : Word b) (w : World) : Calls Try.prog 20 #[.int .i64 52, .int .u64 a, .int .u64 b] w (DoesP (doV 13 a b) w) := does_any 13 (by omega) a b ha hb w
theorem does_14 (a b : Int) (ha : Word a) (hb : Word b) (w : World) : Calls Try.prog 20 #[.int .i64 54, .int .u64 a, .int .u64 b] w (DoesP (doV 14 a b) w) := does_any 14 (by omega) a b ha hb w
theorem does_15 (a b : Int) (ha : Word a) (hb : Word b) (w : World) : Calls Try.prog 20 #[.int .i64 56, .int .u64 a, .int .u64 b] w (DoesP (doV 15 a b) w) := does_any 15 (by omega) a b ha hb w
theorem does_16 (a b : Int) (ha : Word a) (hb : Word b) (w : World) : Calls Try.prog 20 #[.int .i64 55, .int .u64 a, .int .u64 b] w (DoesP (doV 16 a b) w) := does_any 16 (by omega) a b ha hb w
theorem does_17 (a b : Int) (ha : Word a) (hb : Word b) (w : World) : Calls Try.prog 20 #[.int .i64 57, .int .u64 a, .int .u64 b] w (DoesP (doV 17 a b) w) := does_any 17 (by omega) a b ha hb w
theorem does_18 (a b : Int) (ha : Word a) (hb : Word b) (w : World) : Calls Try.prog 20 #[.int .i64 45, .int .u64 a, .int .u64 b] w (DoesP (doV 18 a b) w) := does_any 18 (by omega) a b ha hb w
theorem does_19 (a b : Int) (ha : Word a) (hb : Word b) (w : World) : Calls Try.prog 20 #[.int .i64 46, .int .u64 a, .int .u64 b] w (DoesP (doV 19 a b) w) := does_any 19 (by omega) a b ha hb w
theorem does_20 (a b : Int) (ha : Word a) (hb : Word b) (w : World) : Calls Try.prog 20 #[.int .i64 58, .int .u64 a, .int .u64 b] w (DoesP (doV 20 a b) w) := does_any 20 (by omega) a b ha hb w
theorem does_21 (a b : Int) (ha : Word a) (hb : Word b) (w : World) : Calls Try.prog 20 #[.int .i64 47, .int .u64 a, .int .u64 b] w (DoesP (doV 21 a b) w) := does_any 21 (by omega) a b ha hb w
theorem does_22 (a b : Int) (ha : Word a) (hb : Word b) (w : World) : Calls Try.prog 20 #[.int .i64 48, .int .u64 a, .int .u64 b] w (DoesP (doV 22 a b) w) := does_any 22 (by omega) a b ha hb w
theorem does_23 (a b : Int) (ha : Word a) (hb : Word b) (w : World) : Calls Try.prog 20 #[.int .i64 49, .int .u64 a, .int .u64 b] w (DoesP (doV 23 a b) w) := does_any 23 (by omega) a b ha hb w
theorem does_24 (a b : Int) (ha : Word a) (hb : Word b) (w : World) : Calls Try.prog 20 #[.int .i64 59, .int .u64 a, .int .u64 b] w (DoesP (doV 24 a b) w) := does_any 24 (by omega) a b ha hb w
theorem does_25 (a b : Int) (ha : Word a) (hb : Word b) (w : World) : Calls Try.prog 20 #[.int .i64 61, .int .u64 a, .int .u64 b] w (DoesP (doV 25 a b) w) := does_any 25 (by omega) a b ha hb w
theorem does_26 (a b : Int) (ha : Word a) (hb : Word b) (w : World) : Calls Try.prog 20 #[.int .i64 60, .int .u64 a, .int .u64 b] w (DoesP (doV 26 a b) w) := does_any 26 (by omega) a b ha hb w
theorem does_27 (a b : Int) (ha : Word a) (hb : Word b) (w : World) : Calls Try.prog 20 #[.int .i64 62, .int .u64 a, .int .u64 b] w (DoesP (doV 27 a b) w) := does_any 27 (by omega) a b ha hb w
end Go.Proofs.Ytdlhapjlpkadnaa
