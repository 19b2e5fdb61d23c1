/- insn's bits and signed, and how each shape takes Imm out of a word; the document's cut, signed and taken. By an AI agent; printed by wip/gen_take.py. -/
import Derived.Test.YtgjiojcdifjhcaaDoorDecMath
set_option linter.unusedVariables false
set_option linter.unusedSimpArgs false
namespace Go.Proofs.YtgjiojcdifjhcaaDoor
open Go.RowKit
def IntPost (x : Int) (w : World) (e : Ending) (w' : World) : Prop := e = .returned (.int .i64 x) ∧ Below w.heap.size w w'
theorem int_given {x y : Int} {w w' : World} (h : x = y) (hb : Below w.heap.size w w') : IntPost y w (.returned (.int .i64 x)) w' := by
  subst h; exact ⟨rfl, hb⟩
theorem bits_val (W : Int) (l n : Nat) (w0 : 0 ≤ W) (w1 : W < 4294967296) (hn : n ≤ 20) : bits .and .u32 (W / 2 ^ l) ((2 ^ n - 1) % 4294967296) = W / 2 ^ l % 2 ^ n := by
  have hp := pow_pos2 n
  have hp2 : (2 : Int) ^ n ≤ 1048576 := pow_le n 20 hn
  have e2 : ((2 : Int) ^ n - 1) % 4294967296 = 2 ^ n - 1 := by omega
  have q0 : 0 ≤ W / 2 ^ l := Int.ediv_nonneg w0 (Int.le_of_lt (pow_pos2 l))
  have q1 : W / 2 ^ l ≤ W := Int.ediv_le_self _ w0
  rw [e2, and_u32 _ n (by omega) q0 (by omega)]
theorem bits_val64 (W : Int) (l n : Nat) (w0 : 0 ≤ W) (w1 : W < 4294967296) (hn : n ≤ 20) : wrap64 (bits .and .u32 (W / 2 ^ l) ((2 ^ n - 1) % 4294967296)) = W / 2 ^ l % 2 ^ n := by
  rw [bits_val W l n w0 w1 hn]
  have hp := pow_pos2 n
  have hp2 : (2 : Int) ^ n ≤ 1048576 := pow_le n 20 hn
  have r0 := Int.emod_nonneg (W / 2 ^ l) (Int.ne_of_gt hp)
  have r1 := Int.emod_lt_of_pos (W / 2 ^ l) hp
  unfold wrap64; omega
theorem bits_any (W : Int) (l n : Nat) (w0 : 0 ≤ W) (w1 : W < 4294967296) (hl : l ≤ 32) (hn : n ≤ 20) (w : World) : Calls Tryd.prog 53 #[.int .u32 W, .int .i64 (l : Int), .int .i64 (n : Int)] w (IntPost (W / 2 ^ l % 2 ^ n) w) := by
  have HB := Lib.hid (bits_val64 W l n w0 w1 hn)
  have a1 : (0 : Int) ≤ (l : Int) := by omega
  have a2 : (0 : Int) ≤ (n : Int) := by omega
  have b1 : (l : Int) ≤ 32 := by omega
  have b2 : (n : Int) ≤ 32 := by omega
  go_enter Tryd.func53, Tryd.ntmps53
  go_wp2
  repeat (go_quiet (fail); try go_wp2)
  go_ret
  exact int_given HB.out (by repeat (first | exact Below.refl _ _ | apply below_drewN | apply Below.drew))
theorem bits_lit (W : Int) (l n : Nat) (L N : Int) (w0 : 0 ≤ W) (w1 : W < 4294967296) (hl : l ≤ 32) (hn : n ≤ 20) (eL : (2 : Int) ^ l = L) (eN : (2 : Int) ^ n = N) (w : World) : Calls Tryd.prog 53 #[.int .u32 W, .int .i64 (l : Int), .int .i64 (n : Int)] w (IntPost (W / L % N) w) := by
  subst eL eN; exact bits_any W l n w0 w1 hl hn w
theorem signed_20 (W : Int) (w0 : 0 ≤ W) (w1 : W < 4294967296) (w : World) : Calls Tryd.prog 67 #[.int .u32 W, .int .i64 20, .int .i64 12] w (IntPost (sg (W / 1048576 % 4096) 2048 4096) w) := by
  have HS : Hid (wrap64 (wrap32 W / 1048576) = sg (W / 1048576 % 4096) 2048 4096) := Lib.hid (by unfold wrap64 wrap32 sg; split <;> omega)
  go_enter Tryd.func67, Tryd.ntmps67
  go_wp2
  repeat (go_quiet (fail); try go_wp2)
  go_ret
  exact int_given HS.out (by repeat (first | exact Below.refl _ _ | apply below_drewN | apply Below.drew))
theorem signed_31 (W : Int) (w0 : 0 ≤ W) (w1 : W < 4294967296) (w : World) : Calls Tryd.prog 67 #[.int .u32 W, .int .i64 31, .int .i64 1] w (IntPost (sg (W / 2147483648 % 2) 1 2) w) := by
  have HS : Hid (wrap64 (wrap32 W / 2147483648) = sg (W / 2147483648 % 2) 1 2) := Lib.hid (by unfold wrap64 wrap32 sg; split <;> omega)
  go_enter Tryd.func67, Tryd.ntmps67
  go_wp2
  repeat (go_quiet (fail); try go_wp2)
  go_ret
  exact int_given HS.out (by repeat (first | exact Below.refl _ _ | apply below_drewN | apply Below.drew))
theorem signed_25 (W : Int) (w0 : 0 ≤ W) (w1 : W < 4294967296) (w : World) : Calls Tryd.prog 67 #[.int .u32 W, .int .i64 25, .int .i64 7] w (IntPost (sg (W / 33554432 % 128) 64 128) w) := by
  have HS : Hid (wrap64 (wrap32 W / 33554432) = sg (W / 33554432 % 128) 64 128) := Lib.hid (by unfold wrap64 wrap32 sg; split <;> omega)
  go_enter Tryd.func67, Tryd.ntmps67
  go_wp2
  repeat (go_quiet (fail); try go_wp2)
  go_ret
  exact int_given HS.out (by repeat (first | exact Below.refl _ _ | apply below_drewN | apply Below.drew))
theorem signed_12 (W : Int) (w0 : 0 ≤ W) (w1 : W < 4294967296) (w : World) : Calls Tryd.prog 67 #[.int .u32 W, .int .i64 12, .int .i64 20] w (IntPost (sg (W / 4096 % 1048576) 524288 1048576) w) := by
  have HS : Hid (wrap64 (wrap32 W / 4096) = sg (W / 4096 % 1048576) 524288 1048576) := Lib.hid (by unfold wrap64 wrap32 sg; split <;> omega)
  go_enter Tryd.func67, Tryd.ntmps67
  go_wp2
  repeat (go_quiet (fail); try go_wp2)
  go_ret
  exact int_given HS.out (by repeat (first | exact Below.refl _ _ | apply below_drewN | apply Below.drew))
theorem take57 (W : Int) (w0 : 0 ≤ W) (w1 : W < 4294967296) (w : World) : Calls Tryd.prog 57 #[.int .u32 W] w (IntPost (0) w) := by
  go_enter Tryd.func57, Tryd.ntmps57
  go_wp2_with fail
  go_ret
  exact int_given rfl (Below.refl _ _)
theorem take59 (W : Int) (w0 : 0 ≤ W) (w1 : W < 4294967296) (w : World) : Calls Tryd.prog 59 #[.int .u32 W] w (IntPost (tkI 2 W) w) := by
  go_enter Tryd.func59, Tryd.ntmps59
  go_wp2_with fail
  refine (signed_20 W w0 w1 _).mono ?_
  rintro e u0 ⟨rfl, hb0⟩
  go_wp2_with fail
  go_ret
  exact int_given rfl hb0
theorem take61 (W : Int) (w0 : 0 ≤ W) (w1 : W < 4294967296) (w : World) : Calls Tryd.prog 61 #[.int .u32 W] w (IntPost (tkI 3 W) w) := by
  go_enter Tryd.func61, Tryd.ntmps61
  go_wp2_with fail
  refine (bits_lit W 20 6 1048576 64 w0 w1 (by decide) (by decide) rfl rfl _).mono ?_
  rintro e u0 ⟨rfl, hb0⟩
  go_wp2_with fail
  go_ret
  exact int_given rfl hb0
theorem take64 (W : Int) (w0 : 0 ≤ W) (w1 : W < 4294967296) (w : World) : Calls Tryd.prog 64 #[.int .u32 W] w (IntPost (tkI 4 W) w) := by
  go_enter Tryd.func64, Tryd.ntmps64
  go_wp2_with fail
  refine (bits_lit W 20 5 1048576 32 w0 w1 (by decide) (by decide) rfl rfl _).mono ?_
  rintro e u0 ⟨rfl, hb0⟩
  go_wp2_with fail
  go_ret
  exact int_given rfl hb0
theorem take66 (W : Int) (w0 : 0 ≤ W) (w1 : W < 4294967296) (w : World) : Calls Tryd.prog 66 #[.int .u32 W] w (IntPost (tkI 6 W) w) := by
  have sb : -64 ≤ sg (W / 33554432 % 128) 64 128 ∧ sg (W / 33554432 % 128) 64 128 < 64 := by unfold sg; split <;> omega
  generalize hx : sg (W / 33554432 % 128) 64 128 = x at sb
  have HE : Hid (bits .or .i64 (x * 32) ((W / 128 % 32)) = x * 32 + (W / 128 % 32)) := Lib.hid (by rw [or_i64 5 _ ((W / 128 % 32)) (by decide) (by omega) (by omega) (by omega) (by omega) (by omega)])
  have HT : Hid (x * 32 + (W / 128 % 32) = tkI 6 W) := Lib.hid (by rw [← hx]; rfl)
  have HX := Lib.hid hx
  clear hx
  go_enter Tryd.func66, Tryd.ntmps66
  go_wp2_with fail
  refine (signed_25 W w0 w1 _).mono ?_
  rintro e u0 ⟨rfl, hb0⟩
  rw [HX.out]
  go_wp2_with fail
  refine (bits_lit W 7 5 128 32 w0 w1 (by decide) (by decide) rfl rfl _).mono ?_
  rintro e u1 ⟨rfl, hb1⟩
  go_wp2_with fail
  go_ret
  exact int_given (HE.out.trans HT.out) (hb0.trans (hb1.mono (by have := hb0.size; omega)))
theorem take69 (W : Int) (w0 : 0 ≤ W) (w1 : W < 4294967296) (w : World) : Calls Tryd.prog 69 #[.int .u32 W] w (IntPost (tkI 7 W) w) := by
  have sb : -1 ≤ sg (W / 2147483648 % 2) 1 2 ∧ sg (W / 2147483648 % 2) 1 2 < 1 := by unfold sg; split <;> omega
  generalize hx : sg (W / 2147483648 % 2) 1 2 = x at sb
  have HE : Hid (bits .or .i64 (bits .or .i64 (bits .or .i64 (x * 4096) ((W / 128 % 2) * 2048)) ((W / 33554432 % 64) * 32)) ((W / 256 % 16) * 2) = x * 4096 + (W / 128 % 2) * 2048 + (W / 33554432 % 64) * 32 + (W / 256 % 16) * 2) := Lib.hid (by rw [or_i64 12 _ ((W / 128 % 2) * 2048) (by decide) (by omega) (by omega) (by omega) (by omega) (by omega), or_i64 11 _ ((W / 33554432 % 64) * 32) (by decide) (by omega) (by omega) (by omega) (by omega) (by omega), or_i64 5 _ ((W / 256 % 16) * 2) (by decide) (by omega) (by omega) (by omega) (by omega) (by omega)])
  have HT : Hid (x * 4096 + (W / 128 % 2) * 2048 + (W / 33554432 % 64) * 32 + (W / 256 % 16) * 2 = tkI 7 W) := Lib.hid (by rw [← hx]; rfl)
  have HX := Lib.hid hx
  clear hx
  go_enter Tryd.func69, Tryd.ntmps69
  go_wp2_with fail
  refine (signed_31 W w0 w1 _).mono ?_
  rintro e u0 ⟨rfl, hb0⟩
  rw [HX.out]
  go_wp2_with fail
  refine (bits_lit W 7 1 128 2 w0 w1 (by decide) (by decide) rfl rfl _).mono ?_
  rintro e u1 ⟨rfl, hb1⟩
  go_wp2_with fail
  refine (bits_lit W 25 6 33554432 64 w0 w1 (by decide) (by decide) rfl rfl _).mono ?_
  rintro e u2 ⟨rfl, hb2⟩
  go_wp2_with fail
  refine (bits_lit W 8 4 256 16 w0 w1 (by decide) (by decide) rfl rfl _).mono ?_
  rintro e u3 ⟨rfl, hb3⟩
  go_wp2_with fail
  go_ret
  exact int_given (HE.out.trans HT.out) (((hb0.trans (hb1.mono (by have := hb0.size; omega))).trans (hb2.mono (by have := hb0.size; have := hb1.size; omega))).trans (hb3.mono (by have := hb0.size; have := hb1.size; have := hb2.size; omega)))
theorem take71 (W : Int) (w0 : 0 ≤ W) (w1 : W < 4294967296) (w : World) : Calls Tryd.prog 71 #[.int .u32 W] w (IntPost (tkI 8 W) w) := by
  go_enter Tryd.func71, Tryd.ntmps71
  go_wp2_with fail
  refine (signed_12 W w0 w1 _).mono ?_
  rintro e u0 ⟨rfl, hb0⟩
  go_wp2_with fail
  go_ret
  exact int_given (by show _ = sg (W / 4096 % 1048576) 524288 1048576 * 4096; first | rfl | (unfold sg wrap64; split <;> omega)) hb0
theorem take73 (W : Int) (w0 : 0 ≤ W) (w1 : W < 4294967296) (w : World) : Calls Tryd.prog 73 #[.int .u32 W] w (IntPost (tkI 9 W) w) := by
  have sb : -1 ≤ sg (W / 2147483648 % 2) 1 2 ∧ sg (W / 2147483648 % 2) 1 2 < 1 := by unfold sg; split <;> omega
  generalize hx : sg (W / 2147483648 % 2) 1 2 = x at sb
  have HE : Hid (bits .or .i64 (bits .or .i64 (bits .or .i64 (x * 1048576) ((W / 4096 % 256) * 4096)) ((W / 1048576 % 2) * 2048)) ((W / 2097152 % 1024) * 2) = x * 1048576 + (W / 4096 % 256) * 4096 + (W / 1048576 % 2) * 2048 + (W / 2097152 % 1024) * 2) := Lib.hid (by rw [or_i64 20 _ ((W / 4096 % 256) * 4096) (by decide) (by omega) (by omega) (by omega) (by omega) (by omega), or_i64 12 _ ((W / 1048576 % 2) * 2048) (by decide) (by omega) (by omega) (by omega) (by omega) (by omega), or_i64 11 _ ((W / 2097152 % 1024) * 2) (by decide) (by omega) (by omega) (by omega) (by omega) (by omega)])
  have HT : Hid (x * 1048576 + (W / 4096 % 256) * 4096 + (W / 1048576 % 2) * 2048 + (W / 2097152 % 1024) * 2 = tkI 9 W) := Lib.hid (by rw [← hx]; rfl)
  have HX := Lib.hid hx
  clear hx
  go_enter Tryd.func73, Tryd.ntmps73
  go_wp2_with fail
  refine (signed_31 W w0 w1 _).mono ?_
  rintro e u0 ⟨rfl, hb0⟩
  rw [HX.out]
  go_wp2_with fail
  refine (bits_lit W 12 8 4096 256 w0 w1 (by decide) (by decide) rfl rfl _).mono ?_
  rintro e u1 ⟨rfl, hb1⟩
  go_wp2_with fail
  refine (bits_lit W 20 1 1048576 2 w0 w1 (by decide) (by decide) rfl rfl _).mono ?_
  rintro e u2 ⟨rfl, hb2⟩
  go_wp2_with fail
  refine (bits_lit W 21 10 2097152 1024 w0 w1 (by decide) (by decide) rfl rfl _).mono ?_
  rintro e u3 ⟨rfl, hb3⟩
  go_wp2_with fail
  go_ret
  exact int_given (HE.out.trans HT.out) (((hb0.trans (hb1.mono (by have := hb0.size; omega))).trans (hb2.mono (by have := hb0.size; have := hb1.size; omega))).trans (hb3.mono (by have := hb0.size; have := hb1.size; have := hb2.size; omega)))
theorem take75 (W : Int) (w0 : 0 ≤ W) (w1 : W < 4294967296) (w : World) : Calls Tryd.prog 75 #[.int .u32 W] w (IntPost (tkI 10 W) w) := by
  go_enter Tryd.func75, Tryd.ntmps75
  go_wp2_with fail
  refine (bits_lit W 20 12 1048576 4096 w0 w1 (by decide) (by decide) rfl rfl _).mono ?_
  rintro e u0 ⟨rfl, hb0⟩
  go_wp2_with fail
  go_ret
  exact int_given rfl hb0
theorem take76 (W : Int) (w0 : 0 ≤ W) (w1 : W < 4294967296) (w : World) : Calls Tryd.prog 76 #[.int .u32 W] w (IntPost (tkI 14 W) w) := by
  go_enter Tryd.func76, Tryd.ntmps76
  go_wp2_with fail
  refine (bits_lit W 15 5 32768 32 w0 w1 (by decide) (by decide) rfl rfl _).mono ?_
  rintro e u0 ⟨rfl, hb0⟩
  go_wp2_with fail
  go_ret
  exact int_given rfl hb0
theorem take_any (s : Nat) (s1 : 1 ≤ s) (s2 : s ≤ 14) (W : Int) (w0 : 0 ≤ W) (w1 : W < 4294967296) (w : World) : Calls Tryd.prog (fmTake s) #[.int .u32 W] w (IntPost (tkI s W) w) := by
  rcases s14 s s1 s2 with rfl | rfl | rfl | rfl | rfl | rfl | rfl | rfl | rfl | rfl | rfl | rfl | rfl | rfl
  · exact take57 W w0 w1 w
  · exact take59 W w0 w1 w
  · exact take61 W w0 w1 w
  · exact take64 W w0 w1 w
  · exact take59 W w0 w1 w
  · exact take66 W w0 w1 w
  · exact take69 W w0 w1 w
  · exact take71 W w0 w1 w
  · exact take73 W w0 w1 w
  · exact take75 W w0 w1 w
  · exact take57 W w0 w1 w
  · exact take57 W w0 w1 w
  · exact take57 W w0 w1 w
  · exact take76 W w0 w1 w
theorem entert57 (x : Array Value) (w : World) : (callFunc 57 x).run Tryd.prog w = .ok (.enter 57 x) w := by kernel_rfl
theorem entert59 (x : Array Value) (w : World) : (callFunc 59 x).run Tryd.prog w = .ok (.enter 59 x) w := by kernel_rfl
theorem entert61 (x : Array Value) (w : World) : (callFunc 61 x).run Tryd.prog w = .ok (.enter 61 x) w := by kernel_rfl
theorem entert64 (x : Array Value) (w : World) : (callFunc 64 x).run Tryd.prog w = .ok (.enter 64 x) w := by kernel_rfl
theorem entert66 (x : Array Value) (w : World) : (callFunc 66 x).run Tryd.prog w = .ok (.enter 66 x) w := by kernel_rfl
theorem entert69 (x : Array Value) (w : World) : (callFunc 69 x).run Tryd.prog w = .ok (.enter 69 x) w := by kernel_rfl
theorem entert71 (x : Array Value) (w : World) : (callFunc 71 x).run Tryd.prog w = .ok (.enter 71 x) w := by kernel_rfl
theorem entert73 (x : Array Value) (w : World) : (callFunc 73 x).run Tryd.prog w = .ok (.enter 73 x) w := by kernel_rfl
theorem entert75 (x : Array Value) (w : World) : (callFunc 75 x).run Tryd.prog w = .ok (.enter 75 x) w := by kernel_rfl
theorem entert76 (x : Array Value) (w : World) : (callFunc 76 x).run Tryd.prog w = .ok (.enter 76 x) w := by kernel_rfl
theorem take_enter (s : Nat) (h1 : 1 ≤ s) (h2 : s ≤ 14) (x : Array Value) (w : World) : (callFunc (fmTake s) x).run Tryd.prog w = .ok (.enter (fmTake s) x) w := by
  rcases s14 s h1 h2 with rfl | rfl | rfl | rfl | rfl | rfl | rfl | rfl | rfl | rfl | rfl | rfl | rfl | rfl
  · exact entert57 x w
  · exact entert59 x w
  · exact entert61 x w
  · exact entert64 x w
  · exact entert59 x w
  · exact entert66 x w
  · exact entert69 x w
  · exact entert71 x w
  · exact entert73 x w
  · exact entert75 x w
  · exact entert57 x w
  · exact entert57 x w
  · exact entert57 x w
  · exact entert76 x w
end Go.Proofs.YtgjiojcdifjhcaaDoor
