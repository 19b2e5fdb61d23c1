/- insn's lay, and how each shape puts Imm into a word. By an AI agent. -/
import Derived.Test.YtgjiojcdifjhcaaDoorRefuse
import Derived.Test.YtgjiojcdifjhcaaDoorImm
set_option linter.unusedVariables false
set_option linter.unusedSimpArgs false
namespace Go.Proofs.YtgjiojcdifjhcaaDoor
open Go.RowKit
theorem lay_val (v : Int) (f n l : Nat) (hf : f ≤ 40) (hn : n ≤ 20) (hl : n + l ≤ 32) : bits .and .i64 (v / 2 ^ f) (wrap64 (wrap64 (2 ^ n) - 1)) % 4294967296 * 2 ^ l % 4294967296 = v / 2 ^ f % 2 ^ n * 2 ^ l := by
  have hp := pow_pos2 n
  have hp2 : (2 : Int) ^ n ≤ 1048576 := pow_le n 20 hn
  have E1 : wrap64 ((2 : Int) ^ n) = 2 ^ n := by unfold wrap64; omega
  have E2 : wrap64 ((2 : Int) ^ n - 1) = 2 ^ n - 1 := by unfold wrap64; omega
  obtain ⟨m0, m1⟩ := mod_mul_lt (v / 2 ^ f) n l hl
  have hnn : 0 ≤ v / 2 ^ f % 2 ^ n := Int.emod_nonneg _ (Int.ne_of_gt hp)
  have hnl := Int.emod_lt_of_pos (v / 2 ^ f) hp
  rw [E1, E2, and_i64 _ n (by omega), Int.emod_eq_of_lt hnn (by omega : _ < (4294967296 : Int)), Int.emod_eq_of_lt m0 m1]
theorem lay_any (v : Int) (f n l : Nat) (hf : f ≤ 40) (hn : n ≤ 20) (hl : n + l ≤ 32) (w : World) :
    Calls Tryd.prog 63 #[.int .i64 v, .int .i64 (f : Int), .int .i64 (n : Int), .int .i64 (l : Int)] w fun e w' => e = .returned (.int .u32 (v / 2 ^ f % 2 ^ n * 2 ^ l)) ∧ Below w.heap.size w w' := by
  have HL := Lib.hid (lay_val v f n l hf hn hl)
  have a1 : (0 : Int) ≤ (f : Int) := by omega
  have a2 : (0 : Int) ≤ (n : Int) := by omega
  have a3 : (0 : Int) ≤ (l : Int) := by omega
  have b1 : (f : Int) ≤ 64 := by omega
  have b2 : (n : Int) ≤ 64 := by omega
  have b3 : (l : Int) ≤ 32 := by omega
  go_enter Tryd.func63, Tryd.ntmps63
  go_wp2
  repeat (go_quiet (fail); try go_wp2)
  go_ret
  exact ⟨ret_int HL.out, by repeat (first | exact Below.refl _ _ | apply below_drewN | apply Below.drew)⟩
/-- A piece: so many bits of v from bit f on, laid at l. F, N, L: the powers. -/
theorem lay_lit (v : Int) (f n l : Nat) (F N L : Int) (hf : f ≤ 40) (hn : n ≤ 20) (hl : n + l ≤ 32) (eF : (2 : Int) ^ f = F) (eN : (2 : Int) ^ n = N) (eL : (2 : Int) ^ l = L) (w : World) :
    Calls Tryd.prog 63 #[.int .i64 v, .int .i64 (f : Int), .int .i64 (n : Int), .int .i64 (l : Int)] w fun e w' => e = .returned (.int .u32 (v / F % N * L)) ∧ Below w.heap.size w w' := by
  subst eF eN eL; exact lay_any v f n l hf hn hl w
theorem lay_lit0 (v : Int) (n l : Nat) (N L : Int) (hn : n ≤ 20) (hl : n + l ≤ 32) (eN : (2 : Int) ^ n = N) (eL : (2 : Int) ^ l = L) (w : World) :
    Calls Tryd.prog 63 #[.int .i64 v, .int .i64 ((0 : Nat) : Int), .int .i64 (n : Int), .int .i64 (l : Int)] w fun e w' => e = .returned (.int .u32 (v % N * L)) ∧ Below w.heap.size w w' := by
  have h := lay_lit v 0 n l 1 N L (by decide) hn hl rfl eN eL w
  rwa [Int.ediv_one] at h
def immI (s : Nat) (v : Int) : Int := match s with
  | 2 | 5 | 10 => v % 4096 * 1048576
  | 3 => v % 64 * 1048576
  | 4 => v % 32 * 1048576
  | 6 => v / 32 % 128 * 33554432 + v % 32 * 128
  | 7 => v / 4096 % 2 * 2147483648 + v / 32 % 64 * 33554432 + v / 2 % 16 * 256 + v / 2048 % 2 * 128
  | 8 => v / 4096 % 1048576 * 4096
  | 9 => v / 1048576 % 2 * 2147483648 + v / 2 % 1024 * 2097152 + v / 2048 % 2 * 1048576 + v / 4096 % 256 * 4096
  | 14 => v % 32 * 32768
  | _ => 0
def PutPost (x : Int) (w : World) (e : Ending) (w' : World) : Prop := e = .returned (.int .u32 x) ∧ Below w.heap.size w w'
theorem put58 (v : Int) (w : World) : Calls Tryd.prog 58 #[.int .i64 v] w (PutPost 0 w) := by
  go_enter Tryd.func58, Tryd.ntmps58
  go_wp2
  go_ret
  exact ⟨rfl, Below.refl _ _⟩
theorem put60 (v : Int) (w : World) : Calls Tryd.prog 60 #[.int .i64 v] w (PutPost (v % 4096 * 1048576) w) := by
  go_enter Tryd.func60, Tryd.ntmps60
  go_wp2_with fail
  refine (lay_lit0 v 12 20 4096 1048576 (by decide) (by decide) rfl rfl _).mono ?_
  rintro e w1 ⟨rfl, hb⟩
  go_wp2_with fail
  go_ret
  exact ⟨rfl, hb⟩
theorem put62 (v : Int) (w : World) : Calls Tryd.prog 62 #[.int .i64 v] w (PutPost (v % 64 * 1048576) w) := by
  go_enter Tryd.func62, Tryd.ntmps62
  go_wp2_with fail
  refine (lay_lit0 v 6 20 64 1048576 (by decide) (by decide) rfl rfl _).mono ?_
  rintro e w1 ⟨rfl, hb⟩
  go_wp2_with fail
  go_ret
  exact ⟨rfl, hb⟩
theorem put65 (v : Int) (w : World) : Calls Tryd.prog 65 #[.int .i64 v] w (PutPost (v % 32 * 1048576) w) := by
  go_enter Tryd.func65, Tryd.ntmps65
  go_wp2_with fail
  refine (lay_lit0 v 5 20 32 1048576 (by decide) (by decide) rfl rfl _).mono ?_
  rintro e w1 ⟨rfl, hb⟩
  go_wp2_with fail
  go_ret
  exact ⟨rfl, hb⟩
theorem put77 (v : Int) (w : World) : Calls Tryd.prog 77 #[.int .i64 v] w (PutPost (v % 32 * 32768) w) := by
  go_enter Tryd.func77, Tryd.ntmps77
  go_wp2_with fail
  refine (lay_lit0 v 5 15 32 32768 (by decide) (by decide) rfl rfl _).mono ?_
  rintro e w1 ⟨rfl, hb⟩
  go_wp2_with fail
  go_ret
  exact ⟨rfl, hb⟩
theorem put72 (v : Int) (w : World) : Calls Tryd.prog 72 #[.int .i64 v] w (PutPost (v / 4096 % 1048576 * 4096) w) := by
  go_enter Tryd.func72, Tryd.ntmps72
  go_wp2_with fail
  refine (lay_lit v 12 20 12 4096 1048576 4096 (by decide) (by decide) (by decide) rfl rfl rfl _).mono ?_
  rintro e w1 ⟨rfl, hb⟩
  go_wp2_with fail
  go_ret
  exact ⟨rfl, hb⟩
theorem or_piece (a x : Int) (low n : Nat) (L N : Int) (eL : (2 : Int) ^ low = L) (eN : (2 : Int) ^ n = N) (h0 : 0 ≤ a) (h1 : a < 4294967296) (x0 : 0 ≤ x) (x1 : x < N) (hn : low + n ≤ 32) (h : a / L % N = 0) : bits .or .u32 a (x * L) = a + x * L := by
  subst eL eN; exact or_gap a x low n h0 h1 x0 x1 hn h
theorem put68 (v : Int) (w : World) : Calls Tryd.prog 68 #[.int .i64 v] w (PutPost (v / 32 % 128 * 33554432 + v % 32 * 128) w) := by
  have HE := Lib.hid (or_piece (v / 32 % 128 * 33554432) (v % 32) 7 5 128 32 rfl rfl (by omega) (by omega) (by omega) (by omega) (by omega) (by omega))
  go_enter Tryd.func68, Tryd.ntmps68
  go_wp2_with fail
  refine (lay_lit v 5 7 25 32 128 33554432 (by decide) (by decide) (by decide) rfl rfl rfl _).mono ?_
  rintro e w1 ⟨rfl, hb⟩
  go_wp2_with fail
  refine (lay_lit0 v 5 7 32 128 (by decide) (by decide) rfl rfl _).mono ?_
  rintro e w2 ⟨rfl, hb2⟩
  go_wp2_with fail
  go_ret
  exact ⟨ret_int HE.out, hb.trans (hb2.mono hb.size)⟩
theorem put70 (v : Int) (w : World) : Calls Tryd.prog 70 #[.int .i64 v] w (PutPost (v / 4096 % 2 * 2147483648 + v / 32 % 64 * 33554432 + v / 2 % 16 * 256 + v / 2048 % 2 * 128) w) := by
  have HE : Hid (bits .or .u32 (bits .or .u32 (bits .or .u32 (v / 4096 % 2 * 2147483648) (v / 32 % 64 * 33554432)) (v / 2 % 16 * 256)) (v / 2048 % 2 * 128) = v / 4096 % 2 * 2147483648 + v / 32 % 64 * 33554432 + v / 2 % 16 * 256 + v / 2048 % 2 * 128) := Lib.hid (by
    rw [or_piece (v / 4096 % 2 * 2147483648) (v / 32 % 64) 25 6 33554432 64 rfl rfl (by omega) (by omega) (by omega) (by omega) (by omega) (by omega),
      or_piece _ (v / 2 % 16) 8 4 256 16 rfl rfl (by omega) (by omega) (by omega) (by omega) (by omega) (by omega),
      or_piece _ (v / 2048 % 2) 7 1 128 2 rfl rfl (by omega) (by omega) (by omega) (by omega) (by omega) (by omega)])
  go_enter Tryd.func70, Tryd.ntmps70
  go_wp2_with fail
  refine (lay_lit v 12 1 31 4096 2 2147483648 (by decide) (by decide) (by decide) rfl rfl rfl _).mono ?_
  rintro e w1 ⟨rfl, hb⟩
  go_wp2_with fail
  refine (lay_lit v 5 6 25 32 64 33554432 (by decide) (by decide) (by decide) rfl rfl rfl _).mono ?_
  rintro e w2 ⟨rfl, hb2⟩
  go_wp2_with fail
  refine (lay_lit v 1 4 8 2 16 256 (by decide) (by decide) (by decide) rfl rfl rfl _).mono ?_
  rintro e w3 ⟨rfl, hb3⟩
  go_wp2_with fail
  refine (lay_lit v 11 1 7 2048 2 128 (by decide) (by decide) (by decide) rfl rfl rfl _).mono ?_
  rintro e w4 ⟨rfl, hb4⟩
  go_wp2_with fail
  go_ret
  exact ⟨ret_int HE.out, ((hb.trans (hb2.mono hb.size)).trans (hb3.mono (Nat.le_trans hb.size hb2.size))).trans (hb4.mono (Nat.le_trans (Nat.le_trans hb.size hb2.size) hb3.size))⟩
theorem put74 (v : Int) (w : World) : Calls Tryd.prog 74 #[.int .i64 v] w (PutPost (v / 1048576 % 2 * 2147483648 + v / 2 % 1024 * 2097152 + v / 2048 % 2 * 1048576 + v / 4096 % 256 * 4096) w) := by
  have HE : Hid (bits .or .u32 (bits .or .u32 (bits .or .u32 (v / 1048576 % 2 * 2147483648) (v / 2 % 1024 * 2097152)) (v / 2048 % 2 * 1048576)) (v / 4096 % 256 * 4096) = v / 1048576 % 2 * 2147483648 + v / 2 % 1024 * 2097152 + v / 2048 % 2 * 1048576 + v / 4096 % 256 * 4096) := Lib.hid (by
    rw [or_piece (v / 1048576 % 2 * 2147483648) (v / 2 % 1024) 21 10 2097152 1024 rfl rfl (by omega) (by omega) (by omega) (by omega) (by omega) (by omega),
      or_piece _ (v / 2048 % 2) 20 1 1048576 2 rfl rfl (by omega) (by omega) (by omega) (by omega) (by omega) (by omega),
      or_piece _ (v / 4096 % 256) 12 8 4096 256 rfl rfl (by omega) (by omega) (by omega) (by omega) (by omega) (by omega)])
  go_enter Tryd.func74, Tryd.ntmps74
  go_wp2_with fail
  refine (lay_lit v 20 1 31 1048576 2 2147483648 (by decide) (by decide) (by decide) rfl rfl rfl _).mono ?_
  rintro e w1 ⟨rfl, hb⟩
  go_wp2_with fail
  refine (lay_lit v 1 10 21 2 1024 2097152 (by decide) (by decide) (by decide) rfl rfl rfl _).mono ?_
  rintro e w2 ⟨rfl, hb2⟩
  go_wp2_with fail
  refine (lay_lit v 11 1 20 2048 2 1048576 (by decide) (by decide) (by decide) rfl rfl rfl _).mono ?_
  rintro e w3 ⟨rfl, hb3⟩
  go_wp2_with fail
  refine (lay_lit v 12 8 12 4096 256 4096 (by decide) (by decide) (by decide) rfl rfl rfl _).mono ?_
  rintro e w4 ⟨rfl, hb4⟩
  go_wp2_with fail
  go_ret
  exact ⟨ret_int HE.out, ((hb.trans (hb2.mono hb.size)).trans (hb3.mono (Nat.le_trans hb.size hb2.size))).trans (hb4.mono (Nat.le_trans (Nat.le_trans hb.size hb2.size) hb3.size))⟩
theorem s14 (s : Nat) (h1 : 1 ≤ s) (h2 : s ≤ 14) : s = 1 ∨ s = 2 ∨ s = 3 ∨ s = 4 ∨ s = 5 ∨ s = 6 ∨ s = 7 ∨ s = 8 ∨ s = 9 ∨ s = 10 ∨ s = 11 ∨ s = 12 ∨ s = 13 ∨ s = 14 := by omega
theorem put_any (s : Nat) (h1 : 1 ≤ s) (h2 : s ≤ 14) (v : Int) (w : World) : Calls Tryd.prog (fmPut s) #[.int .i64 v] w (PutPost (immI s v) w) := by
  rcases s14 s h1 h2 with rfl | rfl | rfl | rfl | rfl | rfl | rfl | rfl | rfl | rfl | rfl | rfl | rfl | rfl
  · exact put58 v w
  · exact put60 v w
  · exact put62 v w
  · exact put65 v w
  · exact put60 v w
  · exact put68 v w
  · exact put70 v w
  · exact put72 v w
  · exact put74 v w
  · exact put60 v w
  · exact put58 v w
  · exact put58 v w
  · exact put58 v w
  · exact put77 v w
theorem enter58 (x : Array Value) (w : World) : (callFunc 58 x).run Tryd.prog w = .ok (.enter 58 x) w := by kernel_rfl
theorem enter60 (x : Array Value) (w : World) : (callFunc 60 x).run Tryd.prog w = .ok (.enter 60 x) w := by kernel_rfl
theorem enter62 (x : Array Value) (w : World) : (callFunc 62 x).run Tryd.prog w = .ok (.enter 62 x) w := by kernel_rfl
theorem enter65 (x : Array Value) (w : World) : (callFunc 65 x).run Tryd.prog w = .ok (.enter 65 x) w := by kernel_rfl
theorem enter68 (x : Array Value) (w : World) : (callFunc 68 x).run Tryd.prog w = .ok (.enter 68 x) w := by kernel_rfl
theorem enter70 (x : Array Value) (w : World) : (callFunc 70 x).run Tryd.prog w = .ok (.enter 70 x) w := by kernel_rfl
theorem enter72 (x : Array Value) (w : World) : (callFunc 72 x).run Tryd.prog w = .ok (.enter 72 x) w := by kernel_rfl
theorem enter74 (x : Array Value) (w : World) : (callFunc 74 x).run Tryd.prog w = .ok (.enter 74 x) w := by kernel_rfl
theorem enter77 (x : Array Value) (w : World) : (callFunc 77 x).run Tryd.prog w = .ok (.enter 77 x) w := by kernel_rfl
theorem put_enter (s : Nat) (h1 : 1 ≤ s) (h2 : s ≤ 14) (x : Array Value) (w : World) : (callFunc (fmPut s) x).run Tryd.prog w = .ok (.enter (fmPut s) x) w := by
  rcases s14 s h1 h2 with rfl | rfl | rfl | rfl | rfl | rfl | rfl | rfl | rfl | rfl | rfl | rfl | rfl | rfl
  · exact enter58 x w
  · exact enter60 x w
  · exact enter62 x w
  · exact enter65 x w
  · exact enter60 x w
  · exact enter68 x w
  · exact enter70 x w
  · exact enter72 x w
  · exact enter74 x w
  · exact enter60 x w
  · exact enter58 x w
  · exact enter58 x w
  · exact enter58 x w
  · exact enter77 x w
end Go.Proofs.YtgjiojcdifjhcaaDoor
