/- The document's Do: any operation on any two words, the same in plain numbers. -/
import Derived.Test.YtdlhapjlpkadnaaDo
set_option linter.unusedVariables false
namespace Go.Proofs.Ytdlhapjlpkadnaa
open Go.RowKit Go.Proofs.Ytdlhapjlpkadnaa.PAluDoes

theorem not_law (x : Int) (hx : Word x) : bits .xor .u64 IntKind.u64.max x = 18446744073709551615 - x := by
  obtain ⟨h0, h1⟩ := hx
  obtain ⟨n, rfl⟩ := Int.eq_ofNat_of_zero_le h0
  show IntKind.u64.wrap ((BitVec.ofInt 64 18446744073709551615 ^^^ BitVec.ofInt 64 (n : Int)).toNat : Int) = _
  have e : BitVec.ofInt 64 18446744073709551615 = BitVec.allOnes 64 := by decide
  rw [e, BitVec.allOnes_xor, BitVec.toNat_not, ofInt_u64 n (by omega), wrap_u64]
  omega
theorem minus_any (h l : Int) (hh : Word h) (hl : Word l) (w : World) : Calls Try.prog 84 #[.agg #[.int .u64 h, .int .u64 l]] w fun e w' => e = .returned (.agg #[.int .u64 ((340282366920938463463374607431768211456 - (h * 18446744073709551616 + l)) % 340282366920938463463374607431768211456 / 18446744073709551616), .int .u64 ((340282366920938463463374607431768211456 - (h * 18446744073709551616 + l)) % 340282366920938463463374607431768211456 % 18446744073709551616)]) ∧ Below w.heap.size w w' := by
  have e1 := not_law h hh
  have e2 := not_law l hl
  have hsg : IntKind.u64.signed = false := rfl
  obtain ⟨h0, h1⟩ := hh
  obtain ⟨l0, l1⟩ := hl
  have HL := add_law (18446744073709551615 - h) (18446744073709551615 - l) 0 1 (by omega) (by omega) (by omega) (by omega) (by omega) (by omega) (by omega) (by omega) ((340282366920938463463374607431768211456 - (h * 18446744073709551616 + l)) % 340282366920938463463374607431768211456) (by omega)
  generalize (340282366920938463463374607431768211456 - (h * 18446744073709551616 + l)) % 340282366920938463463374607431768211456 = V at *
  generalize V / 18446744073709551616 = vh at *
  generalize V % 18446744073709551616 = vl at *
  have HL := Lib.hid HL
  go_enter Try.func84, Try.ntmps84
  go_wp2_with fail
  refine (hartixref2_add.calls _ _ _ _ _ _ _ HL.out).mono ?_
  rintro e w1 ⟨rfl, hb⟩
  obtain ⟨hc, hf⟩ := bcell hb
  have hz := hb.size
  simp only [World.size_alloc] at hc hf hz
  have hz1 : w.heap.size < w1.heap.size := by omega
  have hz2 : w.heap.size + 1 < w1.heap.size := by omega
  have c10 : w1.cell? ⟨w.heap.size + 1, 0, none⟩ = some (.int .u64 0) := by rw [hc _ _ (by omega)]; simp [go_sem]
  have c11 : w1.cell? ⟨w.heap.size + 1, 1, none⟩ = some (.int .u64 0) := by rw [hc _ _ (by omega)]; simp [go_sem]
  have f10 : w1.frozen? ⟨w.heap.size + 1, 0, none⟩ = false := by rw [hf _ _ (by omega)]; simp [go_sem]
  have f11 : w1.frozen? ⟨w.heap.size + 1, 1, none⟩ = false := by rw [hf _ _ (by omega)]; simp [go_sem]
  clear hz HL hc hf
  go_wp2_with fail
  refine bodyPost_ret (v := .agg #[.int .u64 vh, .int .u64 vl]) ?_ rfl ⟨rfl, ?_⟩
  · simp [results, Try.results84, go_sem, c10, c11]
  · have b0 := ((Below.refl w.heap.size w).alloc (Nat.le_refl _) (.cells #[.int .u64 h, .int .u64 l] 35)).alloc (by simp) (.cells #[.int .u64 0, .int .u64 0] 35)
    exact ((b0.trans (hb.mono (by simp; omega))).setCell (by show w.heap.size ≤ w.heap.size + 1; omega) _).setCell (by show w.heap.size ≤ w.heap.size + 1; omega) _

/-! ### The upper halves, as the document has them: by amounts and signs -/
theorem hi_pos (x y : Int) (hx : Word x) (hy : Word y) : 0 ≤ x * y / 18446744073709551616 ∧ x * y / 18446744073709551616 ≤ 18446744073709551615 ∧ 0 ≤ x * y ∧ x * y < 340282366920938463463374607431768211456 := by
  have h0 : 0 ≤ x * y := Int.mul_nonneg hx.1 hy.1
  have h1 : x * y ≤ 18446744073709551615 * 18446744073709551615 := Int.mul_le_mul hx.2 hy.2 hy.1 (by omega)
  omega
theorem neg_hi (z : Int) (h0 : 0 ≤ z) (h1 : z < 340282366920938463463374607431768211456) : (340282366920938463463374607431768211456 - (z / 18446744073709551616 * 18446744073709551616 + z % 18446744073709551616)) % 340282366920938463463374607431768211456 / 18446744073709551616 = -z / 18446744073709551616 % 18446744073709551616 := by
  rw [Int.ediv_mul_add_emod]
  omega
theorem neg_fin (z : Int) (h0 : 0 ≤ z) (h1 : z < 340282366920938463463374607431768211456) : -(z / 18446744073709551616 * 18446744073709551616 + z % 18446744073709551616) % 340282366920938463463374607431768211456 / 18446744073709551616 = -z / 18446744073709551616 % 18446744073709551616 := by
  rw [Int.ediv_mul_add_emod]
  omega
theorem mag_word (x : Int) (hx : Word x) : Word (mag x) := by obtain ⟨a, b⟩ := hx; unfold Word mag; omega
theorem mag_low (x : Int) (hx : Word x) (h : ¬ 9223372036854775807 < x) : wrap64 x = mag x := by
  rw [wrap64_low x hx.1 (by omega)]; unfold mag; rw [if_pos (by omega)]
theorem mag_high (x : Int) (hx : Word x) (h : 9223372036854775807 < x) : wrap64 x = -mag x := by
  rw [wrap64_high x (by omega) hx.2]; unfold mag; rw [if_neg (by omega)]; omega
theorem amount_any (a : Int) (ha : Word a) (w : World) : Calls Try.prog 83 #[.int .u64 a] w fun e w' => e = .returned (.int .u64 (mag a)) ∧ w = w' := by
  have ea : (a / 9223372036854775808 == 1) = decide (9223372036854775807 < a) := by have := ha.1; have := ha.2; rw [Bool.eq_iff_iff]; simp; omega
  by_cases h : 9223372036854775807 < a
  · have E := Lib.hid (ea.trans (decide_eq_true h))
    have hm : mag a = IntKind.u64.wrap (0 - a) := by have := ha.1; have := ha.2; unfold mag; rw [if_neg (by omega), wrap_u64]; omega
    have M := Lib.hid hm
    clear ea h hm ha
    go_enter Try.func83, Try.ntmps83
    go_wp2_with (go_at_call 42; refine (below_any _ _).mono ?_; rintro e w' ⟨rfl, rfl⟩; rw [E.out])
    go_ret
    exact ⟨ret_int (by rw [M.out]; congr 1; omega), rfl⟩
  · have E := Lib.hid (ea.trans (decide_eq_false h))
    have M := Lib.hid (show mag a = a by unfold mag; rw [if_pos (by omega)])
    clear ea h ha
    go_enter Try.func83, Try.ntmps83
    go_wp2_with (go_at_call 42; refine (below_any _ _).mono ?_; rintro e w' ⟨rfl, rfl⟩; rw [E.out])
    go_ret
    exact ⟨ret_int (by rw [M.out]), rfl⟩
theorem refmul_any (x y : Int) (hx : Word x) (hy : Word y) (w : World) : Calls Try.prog 17 #[.int .u64 x, .int .u64 y] w fun e w' => e = .returned (.agg #[.int .u64 (x * y / 18446744073709551616), .int .u64 (x * y % 18446744073709551616)]) ∧ Below w.heap.size w w' :=
  hartixref2_Mul.calls 65 x y _ _ w (mul_law x y hx.1 hx.2 hy.1 hy.2)
/-- The end of 'high', of two factors that are not signed: plainly, or turned. -/
theorem hi_word (x y : Int) (hx : Word x) (hy : Word y) : Word (x * y / 18446744073709551616) ∧ Word (x * y % 18446744073709551616) := by
  have := hi_pos x y hx hy
  unfold Word; omega
def HighP (v : Int) (w : World) (e : Ending) (w' : World) : Prop := e = .returned (.int .u64 v) ∧ Below w.heap.size w w'
set_option maxHeartbeats 2000000 in
theorem refhigh_any (a b : Int) (sa sb : Bool) (ha : Word a) (hb : Word b) (w : World) : Calls Try.prog 77 #[.int .u64 a, .int .u64 b, .bool sa, .bool sb] w (HighP (hiS sa sb a b) w) := by
  have ea : (a / 9223372036854775808 == 1) = decide (9223372036854775807 < a) := by have := ha.1; have := ha.2; rw [Bool.eq_iff_iff]; simp; omega
  have eb : (b / 9223372036854775808 == 1) = decide (9223372036854775807 < b) := by have := hb.1; have := hb.2; rw [Bool.eq_iff_iff]; simp; omega
  have S : ∀ na nb, decide (9223372036854775807 < a) = na → decide (9223372036854775807 < b) = nb → hiS sa sb a b = (if (sa && na) != (sb && nb) then -((if sa && na then mag a else a) * (if sb && nb then mag b else b)) / 18446744073709551616 % 18446744073709551616 else (if sa && na then mag a else a) * (if sb && nb then mag b else b) / 18446744073709551616) := by
    intro na nb h1 h2
    have wa : wrap64 a = if na then -mag a else a := by
      cases na
      · rw [wrap64_low a ha.1 (by have := of_decide_eq_false h1; omega)]; rfl
      · exact mag_high a ha (of_decide_eq_true h1)
    have wb : wrap64 b = if nb then -mag b else b := by
      cases nb
      · rw [wrap64_low b hb.1 (by have := of_decide_eq_false h2; omega)]; rfl
      · exact mag_high b hb (of_decide_eq_true h2)
    have m := mag_word a ha
    have m' := mag_word b hb
    unfold hiS
    rw [wa, wb]
    have pos : ∀ x y : Int, Word x → Word y → x * y / 18446744073709551616 % 18446744073709551616 = x * y / 18446744073709551616 := fun x y hx hy => by have := hi_pos x y hx hy; omega
    cases sa <;> cases sb <;> cases na <;> cases nb <;> simp [Int.neg_mul, Int.mul_neg, Int.neg_neg]
    all_goals first | exact pos _ _ (by assumption) (by assumption) | skip
  generalize hna : decide (9223372036854775807 < a) = na at *
  generalize hnb : decide (9223372036854775807 < b) = nb at *
  have SS := Lib.hid (S na nb rfl rfl)
  have Ea := Lib.hid ea
  have Eb := Lib.hid eb
  have HA := Lib.hid ha
  have HB := Lib.hid hb
  clear S ea eb ha hb hna hnb
  cases sa <;> cases sb <;> cases na <;> cases nb
  all_goals
    go_enter Try.func77, Try.ntmps77
    go_wp2_with (first | (go_at_call 42; refine (below_any _ _).mono ?_; rintro e w' ⟨rfl, rfl⟩; first | rw [Ea.out] | rw [Eb.out]) | (go_at_call 83; refine (amount_any _ (by first | exact HA.out | exact HB.out) _).mono ?_; rintro e w' ⟨rfl, rfl⟩))
    refine (refmul_any _ _ (by first | exact HA.out | exact mag_word _ HA.out) (by first | exact HB.out | exact mag_word _ HB.out) _).mono ?_
    rintro e w1 ⟨rfl, hb1⟩
    first
    | (go_wp2_with fail
       go_ret
       exact ⟨ret_int (by rw [SS.out]; simp), hb1.alloc hb1.size _⟩)
    | (go_wp2_with fail
       refine (minus_any _ _ (hi_word _ _ (by first | exact HA.out | exact mag_word _ HA.out) (by first | exact HB.out | exact mag_word _ HB.out)).1 (hi_word _ _ (by first | exact HA.out | exact mag_word _ HA.out) (by first | exact HB.out | exact mag_word _ HB.out)).2 _).mono ?_
       rintro e w2 ⟨rfl, hb2⟩
       obtain ⟨hc, hf⟩ := bcell hb2
       have hz := hb2.size
       simp only [World.size_alloc] at hc hf hz
       have c0 := (hc w1.heap.size 0 (by omega)).trans (World.cell?_alloc_new _ _ _ _)
       have c1 := (hc w1.heap.size 1 (by omega)).trans (World.cell?_alloc_new _ _ _ _)
       have f0 : w2.frozen? ⟨w1.heap.size, 0, none⟩ = false := by rw [hf _ _ (by omega)]; simp [go_sem]
       have f1 : w2.frozen? ⟨w1.heap.size, 1, none⟩ = false := by rw [hf _ _ (by omega)]; simp [go_sem]
       have hz1 : w1.heap.size < w2.heap.size := by omega
       clear hc hf hz
       go_wp2_with fail
       go_ret
       refine ⟨ret_int (by rw [SS.out]; exact neg_fin _ (hi_pos _ _ (by first | exact HA.out | exact mag_word _ HA.out) (by first | exact HB.out | exact mag_word _ HB.out)).2.2.1 (hi_pos _ _ (by first | exact HA.out | exact mag_word _ HA.out) (by first | exact HB.out | exact mag_word _ HB.out)).2.2.2), ?_⟩
       exact (((hb1.alloc hb1.size _).trans (hb2.mono (by have := hb1.size; simp; omega))).setCell hb1.size _).setCell hb1.size _)

end Go.Proofs.Ytdlhapjlpkadnaa
