/- The document's part and laid: Imm's bits at their places. By an AI agent; printed by wip/gen_refsmall.py. -/
import Derived.Test.YtgjiojcdifjhcaaDoorEnc
set_option linter.unusedVariables false
set_option linter.unusedSimpArgs false
namespace Go.Proofs.YtgjiojcdifjhcaaDoor
open Go.RowKit
theorem part_val (v : Int) (lo n : Nat) (h : lo + n ≤ 32) (hn : n ≤ 20) : bits .and .u32 (IntKind.u64.wrap v / 2 ^ lo % 4294967296) ((2 ^ n - 1) % 4294967296) = v / 2 ^ lo % 2 ^ n := by
  have hp := pow_pos2 n
  have hp2 : (2 : Int) ^ n ≤ 1048576 := pow_le n 20 hn
  have e2 : ((2 : Int) ^ n - 1) % 4294967296 = 2 ^ n - 1 := by omega
  rw [IntKind.wrap_u64, e2, and_u32 _ n (by omega) (Int.emod_nonneg _ (by decide)) (Int.emod_lt_of_pos _ (by decide)), piece_u64 v lo n h]
def U32Post (x : Int) (w : World) (e : Ending) (w' : World) : Prop := e = .returned (.int .u32 x) ∧ w' = w
theorem part_any (v : Int) (hi lo n : Nat) (hn : hi + 1 = lo + n) (h20 : n ≤ 20) (hhi : hi ≤ 31) (w : World) : Calls Tryd.prog 78 #[.int .i64 v, .int .i64 (hi : Int), .int .i64 (lo : Int)] w fun e w' => e = .returned (.int .u32 (v / 2 ^ lo % 2 ^ n)) ∧ w' = w := by
  have HP := Lib.hid (part_val v lo n (by omega) h20)
  have a1 : (0 : Int) ≤ (hi : Int) := by omega
  have a2 : (0 : Int) ≤ (lo : Int) := by omega
  have b1 : (hi : Int) ≤ 31 := by omega
  have b2 : (lo : Int) ≤ 32 := by omega
  have c1 : (hi : Int) - lo + 1 = n := by omega
  go_enter Tryd.func78, Tryd.ntmps78
  go_wp2_with fail
  go_ret
  exact ⟨ret_int HP.out, rfl⟩
theorem part_lit (v : Int) (hi lo n : Nat) (F N : Int) (hn : hi + 1 = lo + n) (h20 : n ≤ 20) (hhi : hi ≤ 31) (eF : (2 : Int) ^ lo = F) (eN : (2 : Int) ^ n = N) (w : World) : Calls Tryd.prog 78 #[.int .i64 v, .int .i64 (hi : Int), .int .i64 (lo : Int)] w fun e w' => e = .returned (.int .u32 (v / F % N)) ∧ w' = w := by
  subst eF eN; exact part_any v hi lo n hn h20 hhi w
theorem part_lit0 (v : Int) (hi n : Nat) (N : Int) (hn : hi + 1 = n) (h20 : n ≤ 20) (hhi : hi ≤ 31) (eN : (2 : Int) ^ n = N) (w : World) : Calls Tryd.prog 78 #[.int .i64 v, .int .i64 (hi : Int), .int .i64 ((0 : Nat) : Int)] w fun e w' => e = .returned (.int .u32 (v % N)) ∧ w' = w := by
  have h := part_lit v hi 0 n 1 N (by omega) h20 hhi rfl eN w
  rwa [Int.ediv_one] at h
set_option maxRecDepth 100000 in
set_option maxHeartbeats 4000000 in
theorem laid_at (s : Nat) (h1 : 1 ≤ s) (h2 : s ≤ 14) (v : Int) (w : World) : Calls Tryd.prog 43 #[.int .i64 s, .int .i64 v] w (U32Post (immI s v) w) := by
  rcases s14 s h1 h2 with rfl | rfl | rfl | rfl | rfl | rfl | rfl | rfl | rfl | rfl | rfl | rfl | rfl | rfl
  · clear h1 h2
    go_enter Tryd.func43, Tryd.ntmps43
    go_wp2_with fail
    go_ret
    exact ⟨rfl, rfl⟩
  · clear h1 h2
    go_enter Tryd.func43, Tryd.ntmps43
    go_wp2_with fail
    refine (part_lit0 v 11 12 4096 (by decide) (by decide) (by decide) rfl _).mono ?_
    rintro e w1 ⟨rfl, rfl⟩
    go_wp2_with fail
    go_ret
    exact ⟨rfl, rfl⟩
  · clear h1 h2
    go_enter Tryd.func43, Tryd.ntmps43
    go_wp2_with fail
    refine (part_lit0 v 5 6 64 (by decide) (by decide) (by decide) rfl _).mono ?_
    rintro e w1 ⟨rfl, rfl⟩
    go_wp2_with fail
    go_ret
    exact ⟨rfl, rfl⟩
  · clear h1 h2
    go_enter Tryd.func43, Tryd.ntmps43
    go_wp2_with fail
    refine (part_lit0 v 4 5 32 (by decide) (by decide) (by decide) rfl _).mono ?_
    rintro e w1 ⟨rfl, rfl⟩
    go_wp2_with fail
    go_ret
    exact ⟨rfl, rfl⟩
  · clear h1 h2
    go_enter Tryd.func43, Tryd.ntmps43
    go_wp2_with fail
    refine (part_lit0 v 11 12 4096 (by decide) (by decide) (by decide) rfl _).mono ?_
    rintro e w1 ⟨rfl, rfl⟩
    go_wp2_with fail
    go_ret
    exact ⟨rfl, rfl⟩
  · clear h1 h2
    have HE : Hid (bits .or .u32 (v / 32 % 128 * 33554432) (v % 32 * 128) = v / 32 % 128 * 33554432 + v % 32 * 128) := Lib.hid (by rw [or_piece _ (v % 32) 7 5 128 32 rfl rfl (by omega) (by omega) (by omega) (by omega) (by omega) (by omega)])
    go_enter Tryd.func43, Tryd.ntmps43
    go_wp2_with fail
    refine (part_lit v 11 5 7 32 128 (by decide) (by decide) (by decide) rfl rfl _).mono ?_
    rintro e w1 ⟨rfl, rfl⟩
    go_wp2_with fail
    refine (part_lit0 v 4 5 32 (by decide) (by decide) (by decide) rfl _).mono ?_
    rintro e w1 ⟨rfl, rfl⟩
    go_wp2_with fail
    go_ret
    exact ⟨ret_int HE.out, rfl⟩
  · clear h1 h2
    have HE : Hid (bits .or .u32 (bits .or .u32 (bits .or .u32 (v / 4096 % 2 * 2147483648) (v / 32 % 64 * 33554432)) (v / 2 % 16 * 256)) (v / 2048 % 2 * 128) = v / 4096 % 2 * 2147483648 + v / 32 % 64 * 33554432 + v / 2 % 16 * 256 + v / 2048 % 2 * 128) := Lib.hid (by rw [or_piece _ (v / 32 % 64) 25 6 33554432 64 rfl rfl (by omega) (by omega) (by omega) (by omega) (by omega) (by omega), or_piece _ (v / 2 % 16) 8 4 256 16 rfl rfl (by omega) (by omega) (by omega) (by omega) (by omega) (by omega), or_piece _ (v / 2048 % 2) 7 1 128 2 rfl rfl (by omega) (by omega) (by omega) (by omega) (by omega) (by omega)])
    go_enter Tryd.func43, Tryd.ntmps43
    go_wp2_with fail
    refine (part_lit v 12 12 1 4096 2 (by decide) (by decide) (by decide) rfl rfl _).mono ?_
    rintro e w1 ⟨rfl, rfl⟩
    go_wp2_with fail
    refine (part_lit v 10 5 6 32 64 (by decide) (by decide) (by decide) rfl rfl _).mono ?_
    rintro e w1 ⟨rfl, rfl⟩
    go_wp2_with fail
    refine (part_lit v 4 1 4 2 16 (by decide) (by decide) (by decide) rfl rfl _).mono ?_
    rintro e w1 ⟨rfl, rfl⟩
    go_wp2_with fail
    refine (part_lit v 11 11 1 2048 2 (by decide) (by decide) (by decide) rfl rfl _).mono ?_
    rintro e w1 ⟨rfl, rfl⟩
    go_wp2_with fail
    go_ret
    exact ⟨ret_int HE.out, rfl⟩
  · clear h1 h2
    go_enter Tryd.func43, Tryd.ntmps43
    go_wp2_with fail
    refine (part_lit v 31 12 20 4096 1048576 (by decide) (by decide) (by decide) rfl rfl _).mono ?_
    rintro e w1 ⟨rfl, rfl⟩
    go_wp2_with fail
    go_ret
    exact ⟨rfl, rfl⟩
  · clear h1 h2
    have HE : Hid (bits .or .u32 (bits .or .u32 (bits .or .u32 (v / 1048576 % 2 * 2147483648) (v / 2 % 1024 * 2097152)) (v / 2048 % 2 * 1048576)) (v / 4096 % 256 * 4096) = v / 1048576 % 2 * 2147483648 + v / 2 % 1024 * 2097152 + v / 2048 % 2 * 1048576 + v / 4096 % 256 * 4096) := Lib.hid (by rw [or_piece _ (v / 2 % 1024) 21 10 2097152 1024 rfl rfl (by omega) (by omega) (by omega) (by omega) (by omega) (by omega), or_piece _ (v / 2048 % 2) 20 1 1048576 2 rfl rfl (by omega) (by omega) (by omega) (by omega) (by omega) (by omega), or_piece _ (v / 4096 % 256) 12 8 4096 256 rfl rfl (by omega) (by omega) (by omega) (by omega) (by omega) (by omega)])
    go_enter Tryd.func43, Tryd.ntmps43
    go_wp2_with fail
    refine (part_lit v 20 20 1 1048576 2 (by decide) (by decide) (by decide) rfl rfl _).mono ?_
    rintro e w1 ⟨rfl, rfl⟩
    go_wp2_with fail
    refine (part_lit v 10 1 10 2 1024 (by decide) (by decide) (by decide) rfl rfl _).mono ?_
    rintro e w1 ⟨rfl, rfl⟩
    go_wp2_with fail
    refine (part_lit v 11 11 1 2048 2 (by decide) (by decide) (by decide) rfl rfl _).mono ?_
    rintro e w1 ⟨rfl, rfl⟩
    go_wp2_with fail
    refine (part_lit v 19 12 8 4096 256 (by decide) (by decide) (by decide) rfl rfl _).mono ?_
    rintro e w1 ⟨rfl, rfl⟩
    go_wp2_with fail
    go_ret
    exact ⟨ret_int HE.out, rfl⟩
  · clear h1 h2
    go_enter Tryd.func43, Tryd.ntmps43
    go_wp2_with fail
    refine (part_lit0 v 11 12 4096 (by decide) (by decide) (by decide) rfl _).mono ?_
    rintro e w1 ⟨rfl, rfl⟩
    go_wp2_with fail
    go_ret
    exact ⟨rfl, rfl⟩
  · clear h1 h2
    go_enter Tryd.func43, Tryd.ntmps43
    go_wp2_with fail
    go_ret
    exact ⟨rfl, rfl⟩
  · clear h1 h2
    go_enter Tryd.func43, Tryd.ntmps43
    go_wp2_with fail
    go_ret
    exact ⟨rfl, rfl⟩
  · clear h1 h2
    go_enter Tryd.func43, Tryd.ntmps43
    go_wp2_with fail
    go_ret
    exact ⟨rfl, rfl⟩
  · clear h1 h2
    go_enter Tryd.func43, Tryd.ntmps43
    go_wp2_with fail
    refine (part_lit0 v 4 5 32 (by decide) (by decide) (by decide) rfl _).mono ?_
    rintro e w1 ⟨rfl, rfl⟩
    go_wp2_with fail
    go_ret
    exact ⟨rfl, rfl⟩
end Go.Proofs.YtgjiojcdifjhcaaDoor
