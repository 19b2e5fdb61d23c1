-- PRINTED BY print.sh 35421559b90ae4d0a3588c463048766b98c2df88dd9212a6774a882060cdf62d: not written by this session
import Derived.Test.YtdlhapjlpkadnaaPAluDoesx0
import Derived.Test.YtdlhapjlpkadnaaPAluDoesx2
namespace Go.Proofs.Ytdlhapjlpkadnaa.PAluDoes
open Go.RowKit Go.Proofs.YtdlhapjlpkadnaaW.PrintWords Go.Proofs.YtdlhapjlpkadnaaW.PrintLast Go.Proofs.YtdlhapjlpkadnaaW.PrintMore
attribute [local go_sem] max2_int min2_int max_two min_two max_three min_three max_four min_four   -- for this text's walks alone
set_option linter.unusedVariables false
set_option linter.unusedSimpArgs false

/-! ### hartixref2_half: function 35 -/
def hartixref2_half.f (k : Nat) (a0 : Int) (a1 : Int) (a2 : Int) : Option (Int × Bool) := if a0 = 45 then ((hartixref2_widen.f (IntKind.u64.wrap (a1 + a2))).bind fun t166 => (some (t166, true))) else (if a0 = 46 then ((hartixref2_widen.f (IntKind.u64.wrap (a1 - a2))).bind fun t167 => (some (t167, true))) else (if a0 = 58 then ((hartixref2_widen.f (IntKind.u64.wrap (a1 * a2))).bind fun t168 => (some (t168, true))) else (if a0 = 47 then (if 0 ≤ (Go.bits .and .u64 a2 31) then ((hartixref2_widen.f (shl .u64 a1 (Go.bits .and .u64 a2 31))).bind fun t169 => (some (t169, true))) else (none)) else (if a0 = 48 then ((hartixref2_right.f k a1 (Go.bits .and .u64 a2 31) false).bind fun t170 => ((hartixref2_widen.f t170).bind fun t171 => (some (t171, true)))) else (if a0 = 49 then ((hartixref2_widen.f a1).bind fun t172 => ((hartixref2_right.f k t172 (Go.bits .and .u64 a2 31) (decide (a1 ≥ 2147483648))).bind fun t173 => ((hartixref2_widen.f t173).bind fun t174 => (some (t174, true))))) else (if a0 = 59 then ((hartixref2_widen.f a1).bind fun t175 => ((hartixref2_widen.f a2).bind fun t176 => ((hartixref2_signed.f k t175 t176).bind fun bt177 => ((hartixref2_widen.f bt177.1).bind fun t179 => (some (t179, true)))))) else (if a0 = 61 then ((hartixref2_widen.f a1).bind fun t180 => ((hartixref2_widen.f a2).bind fun t181 => ((hartixref2_signed.f k t180 t181).bind fun bt182 => ((hartixref2_widen.f bt182.2).bind fun t184 => (some (t184, true)))))) else (if a0 = 60 then ((hartixref2_unsigned.f k a1 a2).bind fun bt185 => ((hartixref2_widen.f bt185.1).bind fun t187 => (some (t187, true)))) else (if a0 = 62 then ((hartixref2_unsigned.f k a1 a2).bind fun bt188 => ((hartixref2_widen.f bt188.2).bind fun t190 => (some (t190, true)))) else (some (0, false)))))))))))
theorem hartixref2_half.mono : ∀ a0 a1 a2 k, LeO (hartixref2_half.f k a0 a1 a2) (hartixref2_half.f (k + 1) a0 a1 a2) := by
  intro a0 a1 a2 k
  unfold hartixref2_half.f
  repeat' first
      | (with_reducible exact hartixref2_right.mono _ _ _ _)
      | (with_reducible exact hartixref2_signed.mono _ _ _)
      | (with_reducible exact hartixref2_unsigned.mono _ _ _)
      | (with_reducible exact LeO.refl _)
      | (with_reducible exact LeO.none _)
      | (with_reducible refine LeO.ite ?_ ?_)
      | (with_reducible refine LeO.bind ?_ (fun _ => ?_))
      | exact hartixref2_right.mono _ _ _ _
      | exact hartixref2_signed.mono _ _ _
      | exact hartixref2_unsigned.mono _ _ _
      | exact LeO.none _
      | refine LeO.ite ?_ ?_
      | refine LeO.bind ?_ (fun _ => ?_)
set_option maxHeartbeats 8000000 in
set_option maxRecDepth 100000 in
theorem hartixref2_half.calls (k : Nat) (a0 : Int) (a1 : Int) (a2 : Int) (r1 : Int) (r2 : Bool) (w : World) (h : hartixref2_half.f k a0 a1 a2 = some (r1, r2)) :
    Calls Try.prog 35 #[.int .i64 a0, .int .u64 a1, .int .u64 a2] w fun e w' => e = .returned (.tuple #[.int .u64 r1, .bool r2]) ∧ Below w.heap.size w w' := by
  have HB := Aside0.mk (Below.refl w.heap.size w)
  have H : (if a0 = 45 then ((hartixref2_widen.f (IntKind.u64.wrap (a1 + a2))).bind fun t166 => (some (t166, true))) else (if a0 = 46 then ((hartixref2_widen.f (IntKind.u64.wrap (a1 - a2))).bind fun t167 => (some (t167, true))) else (if a0 = 58 then ((hartixref2_widen.f (IntKind.u64.wrap (a1 * a2))).bind fun t168 => (some (t168, true))) else (if a0 = 47 then (if 0 ≤ (Go.bits .and .u64 a2 31) then ((hartixref2_widen.f (shl .u64 a1 (Go.bits .and .u64 a2 31))).bind fun t169 => (some (t169, true))) else (none)) else (if a0 = 48 then ((hartixref2_right.f k a1 (Go.bits .and .u64 a2 31) false).bind fun t170 => ((hartixref2_widen.f t170).bind fun t171 => (some (t171, true)))) else (if a0 = 49 then ((hartixref2_widen.f a1).bind fun t172 => ((hartixref2_right.f k t172 (Go.bits .and .u64 a2 31) (decide (a1 ≥ 2147483648))).bind fun t173 => ((hartixref2_widen.f t173).bind fun t174 => (some (t174, true))))) else (if a0 = 59 then ((hartixref2_widen.f a1).bind fun t175 => ((hartixref2_widen.f a2).bind fun t176 => ((hartixref2_signed.f k t175 t176).bind fun bt177 => ((hartixref2_widen.f bt177.1).bind fun t179 => (some (t179, true)))))) else (if a0 = 61 then ((hartixref2_widen.f a1).bind fun t180 => ((hartixref2_widen.f a2).bind fun t181 => ((hartixref2_signed.f k t180 t181).bind fun bt182 => ((hartixref2_widen.f bt182.2).bind fun t184 => (some (t184, true)))))) else (if a0 = 60 then ((hartixref2_unsigned.f k a1 a2).bind fun bt185 => ((hartixref2_widen.f bt185.1).bind fun t187 => (some (t187, true)))) else (if a0 = 62 then ((hartixref2_unsigned.f k a1 a2).bind fun bt188 => ((hartixref2_widen.f bt188.2).bind fun t190 => (some (t190, true)))) else (some (0, false)))))))))))) = some (r1, r2) := h
  clear h
  by_cases c4 : a0 = 45
  · rw [if_pos c4] at H
    have c4b0 : (a0 == 45) = true := beq_iff_eq.mpr c4
    have c4b1 : (a0 != 45) = false := bne_eq_false_iff_eq.mpr c4
    clear c4
    replace H := Option.bind_eq_some_iff.mp H
    obtain ⟨t166, A50, H⟩ := H
    replace H : (some (t166, true)) = some (r1, r2) := H
    have A5 := Aside0.mk A50
    clear A50
    simp only [Option.some.injEq, Prod.mk.injEq] at H
    obtain ⟨rfl, rfl⟩ := H
    go_enter Try.func35, Try.ntmps35
    go_wp2_with (first | ((with_reducible refine gate_callee (f := 80) rfl ?_); refine goesL_ (some 22) rfl rfl Try.func80 (by kernel_rfl) rfl #[.int .u64 (IntKind.u64.wrap (a1 + a2))] rfl (by (try simp only [List.map_toArray, List.map_cons, List.map_nil]); first | done | rfl | (simp only [List.length_drop, List.length_take]; rfl)) ?_; (with_reducible refine (hartixref2_widen.calls (IntKind.u64.wrap (a1 + a2)) t166 _ A5.out).mono ?_); rintro e w' ⟨rfl, ⟨nd, rfl⟩⟩; refine ⟨_, rfl, ?_⟩))
    go_ret2
    exact ⟨by first | rfl | (simp [errW_none, errW_some] <;> rfl) | (simp [*, errW_none, errW_some] <;> rfl), by repeat (first | (with_reducible first | exact HB.out | apply below_alloc | apply pw_below_drewN | apply below_drew1) | exact HB.out)⟩
  · rw [if_neg c4] at H
    have c4b0 : (a0 == 45) = false := beq_eq_false_iff_ne.mpr c4
    have c4b1 : (a0 != 45) = true := bne_iff_ne.mpr c4
    by_cases c6 : a0 = 46
    · rw [if_pos c6] at H
      have c6b0 : (a0 == 46) = true := beq_iff_eq.mpr c6
      have c6b1 : (a0 != 46) = false := bne_eq_false_iff_eq.mpr c6
      clear c6
      replace H := Option.bind_eq_some_iff.mp H
      obtain ⟨t167, A70, H⟩ := H
      replace H : (some (t167, true)) = some (r1, r2) := H
      have A7 := Aside0.mk A70
      clear A70
      simp only [Option.some.injEq, Prod.mk.injEq] at H
      obtain ⟨rfl, rfl⟩ := H
      go_enter Try.func35, Try.ntmps35
      go_wp2_with (first | ((with_reducible refine gate_callee (f := 80) rfl ?_); refine goesL_ (some 28) rfl rfl Try.func80 (by kernel_rfl) rfl #[.int .u64 (IntKind.u64.wrap (a1 - a2))] rfl (by (try simp only [List.map_toArray, List.map_cons, List.map_nil]); first | done | rfl | (simp only [List.length_drop, List.length_take]; rfl)) ?_; (with_reducible refine (hartixref2_widen.calls (IntKind.u64.wrap (a1 - a2)) t167 _ A7.out).mono ?_); rintro e w' ⟨rfl, ⟨nd, rfl⟩⟩; refine ⟨_, rfl, ?_⟩))
      go_ret2
      exact ⟨by first | rfl | (simp [errW_none, errW_some] <;> rfl) | (simp [*, errW_none, errW_some] <;> rfl), by repeat (first | (with_reducible first | exact HB.out | apply below_alloc | apply pw_below_drewN | apply below_drew1) | exact HB.out)⟩
    · rw [if_neg c6] at H
      have c6b0 : (a0 == 46) = false := beq_eq_false_iff_ne.mpr c6
      have c6b1 : (a0 != 46) = true := bne_iff_ne.mpr c6
      by_cases c8 : a0 = 58
      · rw [if_pos c8] at H
        have c8b0 : (a0 == 58) = true := beq_iff_eq.mpr c8
        have c8b1 : (a0 != 58) = false := bne_eq_false_iff_eq.mpr c8
        clear c8
        replace H := Option.bind_eq_some_iff.mp H
        obtain ⟨t168, A90, H⟩ := H
        replace H : (some (t168, true)) = some (r1, r2) := H
        have A9 := Aside0.mk A90
        clear A90
        simp only [Option.some.injEq, Prod.mk.injEq] at H
        obtain ⟨rfl, rfl⟩ := H
        go_enter Try.func35, Try.ntmps35
        go_wp2_with (first | ((with_reducible refine gate_callee (f := 80) rfl ?_); refine goesL_ (some 34) rfl rfl Try.func80 (by kernel_rfl) rfl #[.int .u64 (IntKind.u64.wrap (a1 * a2))] rfl (by (try simp only [List.map_toArray, List.map_cons, List.map_nil]); first | done | rfl | (simp only [List.length_drop, List.length_take]; rfl)) ?_; (with_reducible refine (hartixref2_widen.calls (IntKind.u64.wrap (a1 * a2)) t168 _ A9.out).mono ?_); rintro e w' ⟨rfl, ⟨nd, rfl⟩⟩; refine ⟨_, rfl, ?_⟩))
        go_ret2
        exact ⟨by first | rfl | (simp [errW_none, errW_some] <;> rfl) | (simp [*, errW_none, errW_some] <;> rfl), by repeat (first | (with_reducible first | exact HB.out | apply below_alloc | apply pw_below_drewN | apply below_drew1) | exact HB.out)⟩
      · rw [if_neg c8] at H
        have c8b0 : (a0 == 58) = false := beq_eq_false_iff_ne.mpr c8
        have c8b1 : (a0 != 58) = true := bne_iff_ne.mpr c8
        by_cases c10 : a0 = 47
        · rw [if_pos c10] at H
          have c10b0 : (a0 == 47) = true := beq_iff_eq.mpr c10
          have c10b1 : (a0 != 47) = false := bne_eq_false_iff_eq.mpr c10
          clear c10
          by_cases c11 : 0 ≤ (Go.bits .and .u64 a2 31)
          · rw [if_pos c11] at H
            have c11b0 := eq_true c11
            have c11b1 : decide (0 ≤ (Go.bits .and .u64 a2 31)) = true := decide_eq_true c11
            clear c11
            obtain ⟨ji12, hji12⟩ : ∃ j_ : Int, (shl .u64 a1 (Go.bits .and .u64 a2 31)) = j_ := ⟨_, rfl⟩
            replace H : ((hartixref2_widen.f (ji12)).bind fun t169 => (some (t169, true))) = some (r1, r2) := by first | (rw [hji12] at H; exact H) | (simp only [hji12] at H ⊢; exact H)
            have hji12_ : (IntKind.u64.wrap (a1 * 2 ^ min (Go.bits .and .u64 a2 31).toNat 64)) = ji12 := hji12
            have hji12z : (Go.bits .and .u64 a2 31) ≤ 64 → (IntKind.u64.wrap (a1 * 2 ^ (Go.bits .and .u64 a2 31).toNat)) = ji12 := shl_small hji12
            replace H := Option.bind_eq_some_iff.mp H
            obtain ⟨t169, A130, H⟩ := H
            replace H : (some (t169, true)) = some (r1, r2) := H
            have A13 := Aside0.mk A130
            clear A130
            simp only [Option.some.injEq, Prod.mk.injEq] at H
            obtain ⟨rfl, rfl⟩ := H
            go_enter Try.func35, Try.ntmps35
            go_wp2_with (first | ((with_reducible refine gate_callee (f := 80) rfl ?_); refine goesL_ (some 41) rfl rfl Try.func80 (by kernel_rfl) rfl #[.int .u64 ji12] rfl (by (try simp only [List.map_toArray, List.map_cons, List.map_nil]); first | done | (simp only [hji12]; rfl) | rfl | (simp only [List.length_drop, List.length_take]; rfl)) ?_; (with_reducible refine (hartixref2_widen.calls ji12 t169 _ A13.out).mono ?_); rintro e w' ⟨rfl, ⟨nd, rfl⟩⟩; refine ⟨_, rfl, ?_⟩))
            go_ret2
            exact ⟨by first | rfl | (simp [errW_none, errW_some] <;> rfl) | (simp only [← hji12]; first | rfl | (simp [errW_none, errW_some] <;> rfl)) | (simp [*, errW_none, errW_some] <;> rfl), by repeat (first | (with_reducible first | exact HB.out | apply below_alloc | apply pw_below_drewN | apply below_drew1) | exact HB.out)⟩
          · rw [if_neg c11] at H
            exact absurd H (by simp)
        · rw [if_neg c10] at H
          have c10b0 : (a0 == 47) = false := beq_eq_false_iff_ne.mpr c10
          have c10b1 : (a0 != 47) = true := bne_iff_ne.mpr c10
          by_cases c14 : a0 = 48
          · rw [if_pos c14] at H
            have c14b0 : (a0 == 48) = true := beq_iff_eq.mpr c14
            have c14b1 : (a0 != 48) = false := bne_eq_false_iff_eq.mpr c14
            clear c14
            replace H := Option.bind_eq_some_iff.mp H
            obtain ⟨t170, A150, H⟩ := H
            replace H : ((hartixref2_widen.f t170).bind fun t171 => (some (t171, true))) = some (r1, r2) := H
            have A15 := Aside0.mk A150
            clear A150
            replace H := Option.bind_eq_some_iff.mp H
            obtain ⟨t171, A160, H⟩ := H
            replace H : (some (t171, true)) = some (r1, r2) := H
            have A16 := Aside0.mk A160
            clear A160
            simp only [Option.some.injEq, Prod.mk.injEq] at H
            obtain ⟨rfl, rfl⟩ := H
            go_enter Try.func35, Try.ntmps35
            go_wp2_with (first | ((with_reducible refine gate_callee (f := 75) rfl ?_); refine goesL_ (some 47) rfl rfl Try.func75 (by kernel_rfl) rfl #[.int .u64 a1, .int .u64 (Go.bits .and .u64 a2 31), .bool false] rfl (by (try simp only [List.map_toArray, List.map_cons, List.map_nil]); first | done | rfl | (simp only [List.length_drop, List.length_take]; rfl)) ?_; (with_reducible refine (hartixref2_right.calls k a1 (Go.bits .and .u64 a2 31) false t170 _ A15.out).mono ?_); rintro e w' ⟨rfl, ⟨nd, rfl⟩⟩; refine ⟨_, rfl, ?_⟩) | ((with_reducible refine gate_callee (f := 80) rfl ?_); refine goesL_ (some 48) rfl rfl Try.func80 (by kernel_rfl) rfl #[.int .u64 t170] rfl (by (try simp only [List.map_toArray, List.map_cons, List.map_nil]); first | done | rfl | (simp only [List.length_drop, List.length_take]; rfl)) ?_; (with_reducible refine (hartixref2_widen.calls t170 t171 _ A16.out).mono ?_); rintro e w' ⟨rfl, ⟨nd, rfl⟩⟩; refine ⟨_, rfl, ?_⟩))
            go_ret2
            exact ⟨by first | rfl | (simp [errW_none, errW_some] <;> rfl) | (simp [*, errW_none, errW_some] <;> rfl), by repeat (first | (with_reducible first | exact HB.out | apply below_alloc | apply pw_below_drewN | apply below_drew1) | exact HB.out)⟩
          · rw [if_neg c14] at H
            have c14b0 : (a0 == 48) = false := beq_eq_false_iff_ne.mpr c14
            have c14b1 : (a0 != 48) = true := bne_iff_ne.mpr c14
            by_cases c17 : a0 = 49
            · rw [if_pos c17] at H
              have c17b0 : (a0 == 49) = true := beq_iff_eq.mpr c17
              have c17b1 : (a0 != 49) = false := bne_eq_false_iff_eq.mpr c17
              clear c17
              replace H := Option.bind_eq_some_iff.mp H
              obtain ⟨t172, A180, H⟩ := H
              replace H : ((hartixref2_right.f k t172 (Go.bits .and .u64 a2 31) (decide (a1 ≥ 2147483648))).bind fun t173 => ((hartixref2_widen.f t173).bind fun t174 => (some (t174, true)))) = some (r1, r2) := H
              have A18 := Aside0.mk A180
              clear A180
              replace H := Option.bind_eq_some_iff.mp H
              obtain ⟨t173, A190, H⟩ := H
              replace H : ((hartixref2_widen.f t173).bind fun t174 => (some (t174, true))) = some (r1, r2) := H
              have A19 := Aside0.mk A190
              clear A190
              replace H := Option.bind_eq_some_iff.mp H
              obtain ⟨t174, A200, H⟩ := H
              replace H : (some (t174, true)) = some (r1, r2) := H
              have A20 := Aside0.mk A200
              clear A200
              simp only [Option.some.injEq, Prod.mk.injEq] at H
              obtain ⟨rfl, rfl⟩ := H
              go_enter Try.func35, Try.ntmps35
              go_wp2_with (first | ((with_reducible refine gate_callee (f := 80) rfl ?_); refine goesL_ (some 52) rfl rfl Try.func80 (by kernel_rfl) rfl #[.int .u64 a1] rfl (by (try simp only [List.map_toArray, List.map_cons, List.map_nil]); first | done | rfl | (simp only [List.length_drop, List.length_take]; rfl)) ?_; (with_reducible refine (hartixref2_widen.calls a1 t172 _ A18.out).mono ?_); rintro e w' ⟨rfl, ⟨nd, rfl⟩⟩; refine ⟨_, rfl, ?_⟩) | ((with_reducible refine gate_callee (f := 75) rfl ?_); refine goesL_ (some 57) rfl rfl Try.func75 (by kernel_rfl) rfl #[.int .u64 t172, .int .u64 (Go.bits .and .u64 a2 31), .bool (decide (a1 ≥ 2147483648))] rfl (by (try simp only [List.map_toArray, List.map_cons, List.map_nil]); first | done | rfl | (simp only [List.length_drop, List.length_take]; rfl)) ?_; (with_reducible refine (hartixref2_right.calls k t172 (Go.bits .and .u64 a2 31) (decide (a1 ≥ 2147483648)) t173 _ A19.out).mono ?_); rintro e w' ⟨rfl, ⟨nd, rfl⟩⟩; refine ⟨_, rfl, ?_⟩) | ((with_reducible refine gate_callee (f := 80) rfl ?_); refine goesL_ (some 58) rfl rfl Try.func80 (by kernel_rfl) rfl #[.int .u64 t173] rfl (by (try simp only [List.map_toArray, List.map_cons, List.map_nil]); first | done | rfl | (simp only [List.length_drop, List.length_take]; rfl)) ?_; (with_reducible refine (hartixref2_widen.calls t173 t174 _ A20.out).mono ?_); rintro e w' ⟨rfl, ⟨nd, rfl⟩⟩; refine ⟨_, rfl, ?_⟩))
              go_ret2
              exact ⟨by first | rfl | (simp [errW_none, errW_some] <;> rfl) | (simp [*, errW_none, errW_some] <;> rfl), by repeat (first | (with_reducible first | exact HB.out | apply below_alloc | apply pw_below_drewN | apply below_drew1) | exact HB.out)⟩
            · rw [if_neg c17] at H
              have c17b0 : (a0 == 49) = false := beq_eq_false_iff_ne.mpr c17
              have c17b1 : (a0 != 49) = true := bne_iff_ne.mpr c17
              by_cases c21 : a0 = 59
              · rw [if_pos c21] at H
                have c21b0 : (a0 == 59) = true := beq_iff_eq.mpr c21
                have c21b1 : (a0 != 59) = false := bne_eq_false_iff_eq.mpr c21
                clear c21
                replace H := Option.bind_eq_some_iff.mp H
                obtain ⟨t175, A220, H⟩ := H
                replace H : ((hartixref2_widen.f a2).bind fun t176 => ((hartixref2_signed.f k t175 t176).bind fun bt177 => ((hartixref2_widen.f bt177.1).bind fun t179 => (some (t179, true))))) = some (r1, r2) := H
                have A22 := Aside0.mk A220
                clear A220
                replace H := Option.bind_eq_some_iff.mp H
                obtain ⟨t176, A230, H⟩ := H
                replace H : ((hartixref2_signed.f k t175 t176).bind fun bt177 => ((hartixref2_widen.f bt177.1).bind fun t179 => (some (t179, true)))) = some (r1, r2) := H
                have A23 := Aside0.mk A230
                clear A230
                replace H := Option.bind_eq_some_iff.mp H
                obtain ⟨⟨t177, t178⟩, A240, H⟩ := H
                replace H : ((hartixref2_widen.f t177).bind fun t179 => (some (t179, true))) = some (r1, r2) := H
                have A24 := Aside0.mk A240
                clear A240
                replace H := Option.bind_eq_some_iff.mp H
                obtain ⟨t179, A250, H⟩ := H
                replace H : (some (t179, true)) = some (r1, r2) := H
                have A25 := Aside0.mk A250
                clear A250
                simp only [Option.some.injEq, Prod.mk.injEq] at H
                obtain ⟨rfl, rfl⟩ := H
                go_enter Try.func35, Try.ntmps35
                go_wp2_with (first | ((with_reducible refine gate_callee (f := 80) rfl ?_); refine goesL_ (some 63) rfl rfl Try.func80 (by kernel_rfl) rfl #[.int .u64 a1] rfl (by (try simp only [List.map_toArray, List.map_cons, List.map_nil]); first | done | rfl | (simp only [List.length_drop, List.length_take]; rfl)) ?_; (with_reducible refine (hartixref2_widen.calls a1 t175 _ A22.out).mono ?_); rintro e w' ⟨rfl, ⟨nd, rfl⟩⟩; refine ⟨_, rfl, ?_⟩) | ((with_reducible refine gate_callee (f := 80) rfl ?_); refine goesL_ (some 65) rfl rfl Try.func80 (by kernel_rfl) rfl #[.int .u64 a2] rfl (by (try simp only [List.map_toArray, List.map_cons, List.map_nil]); first | done | rfl | (simp only [List.length_drop, List.length_take]; rfl)) ?_; (with_reducible refine (hartixref2_widen.calls a2 t176 _ A23.out).mono ?_); rintro e w' ⟨rfl, ⟨nd, rfl⟩⟩; refine ⟨_, rfl, ?_⟩) | ((with_reducible refine gate_callee (f := 78) rfl ?_); refine goesL_ (some 66) rfl rfl Try.func78 (by kernel_rfl) rfl #[.int .u64 t175, .int .u64 t176] rfl (by (try simp only [List.map_toArray, List.map_cons, List.map_nil]); first | done | rfl | (simp only [List.length_drop, List.length_take]; rfl)) ?_; (with_reducible refine (hartixref2_signed.calls k t175 t176 t177 t178 _ A24.out).mono ?_); rintro e w26 ⟨rfl, hb⟩; refine ⟨_, rfl, ?_⟩; have n0_ := Aside0.mk (below_step (by repeat (first | (with_reducible first | exact HB.out | apply below_alloc | apply pw_below_drewN | apply below_drew1) | exact HB.out)) hb); clear HB; have HB := n0_; clear n0_; (try clear hb); (try clear hb2); (try clear hk); (try clear hi)) | ((with_reducible refine gate_callee (f := 80) rfl ?_); refine goesL_ (some 70) rfl rfl Try.func80 (by kernel_rfl) rfl #[.int .u64 t177] rfl (by (try simp only [List.map_toArray, List.map_cons, List.map_nil]); first | done | rfl | (simp only [List.length_drop, List.length_take]; rfl)) ?_; (with_reducible refine (hartixref2_widen.calls t177 t179 _ A25.out).mono ?_); rintro e w' ⟨rfl, ⟨nd, rfl⟩⟩; refine ⟨_, rfl, ?_⟩))
                go_ret2
                exact ⟨by first | rfl | (simp [errW_none, errW_some] <;> rfl) | (simp [*, errW_none, errW_some] <;> rfl), by repeat (first | (with_reducible first | exact HB.out | apply below_alloc | apply pw_below_drewN | apply below_drew1) | exact HB.out)⟩
              · rw [if_neg c21] at H
                have c21b0 : (a0 == 59) = false := beq_eq_false_iff_ne.mpr c21
                have c21b1 : (a0 != 59) = true := bne_iff_ne.mpr c21
                by_cases c27 : a0 = 61
                · rw [if_pos c27] at H
                  have c27b0 : (a0 == 61) = true := beq_iff_eq.mpr c27
                  have c27b1 : (a0 != 61) = false := bne_eq_false_iff_eq.mpr c27
                  clear c27
                  replace H := Option.bind_eq_some_iff.mp H
                  obtain ⟨t180, A280, H⟩ := H
                  replace H : ((hartixref2_widen.f a2).bind fun t181 => ((hartixref2_signed.f k t180 t181).bind fun bt182 => ((hartixref2_widen.f bt182.2).bind fun t184 => (some (t184, true))))) = some (r1, r2) := H
                  have A28 := Aside0.mk A280
                  clear A280
                  replace H := Option.bind_eq_some_iff.mp H
                  obtain ⟨t181, A290, H⟩ := H
                  replace H : ((hartixref2_signed.f k t180 t181).bind fun bt182 => ((hartixref2_widen.f bt182.2).bind fun t184 => (some (t184, true)))) = some (r1, r2) := H
                  have A29 := Aside0.mk A290
                  clear A290
                  replace H := Option.bind_eq_some_iff.mp H
                  obtain ⟨⟨t182, t183⟩, A300, H⟩ := H
                  replace H : ((hartixref2_widen.f t183).bind fun t184 => (some (t184, true))) = some (r1, r2) := H
                  have A30 := Aside0.mk A300
                  clear A300
                  replace H := Option.bind_eq_some_iff.mp H
                  obtain ⟨t184, A310, H⟩ := H
                  replace H : (some (t184, true)) = some (r1, r2) := H
                  have A31 := Aside0.mk A310
                  clear A310
                  simp only [Option.some.injEq, Prod.mk.injEq] at H
                  obtain ⟨rfl, rfl⟩ := H
                  go_enter Try.func35, Try.ntmps35
                  go_wp2_with (first | ((with_reducible refine gate_callee (f := 80) rfl ?_); refine goesL_ (some 75) rfl rfl Try.func80 (by kernel_rfl) rfl #[.int .u64 a1] rfl (by (try simp only [List.map_toArray, List.map_cons, List.map_nil]); first | done | rfl | (simp only [List.length_drop, List.length_take]; rfl)) ?_; (with_reducible refine (hartixref2_widen.calls a1 t180 _ A28.out).mono ?_); rintro e w' ⟨rfl, ⟨nd, rfl⟩⟩; refine ⟨_, rfl, ?_⟩) | ((with_reducible refine gate_callee (f := 80) rfl ?_); refine goesL_ (some 77) rfl rfl Try.func80 (by kernel_rfl) rfl #[.int .u64 a2] rfl (by (try simp only [List.map_toArray, List.map_cons, List.map_nil]); first | done | rfl | (simp only [List.length_drop, List.length_take]; rfl)) ?_; (with_reducible refine (hartixref2_widen.calls a2 t181 _ A29.out).mono ?_); rintro e w' ⟨rfl, ⟨nd, rfl⟩⟩; refine ⟨_, rfl, ?_⟩) | ((with_reducible refine gate_callee (f := 78) rfl ?_); refine goesL_ (some 78) rfl rfl Try.func78 (by kernel_rfl) rfl #[.int .u64 t180, .int .u64 t181] rfl (by (try simp only [List.map_toArray, List.map_cons, List.map_nil]); first | done | rfl | (simp only [List.length_drop, List.length_take]; rfl)) ?_; (with_reducible refine (hartixref2_signed.calls k t180 t181 t182 t183 _ A30.out).mono ?_); rintro e w32 ⟨rfl, hb⟩; refine ⟨_, rfl, ?_⟩; have n0_ := Aside0.mk (below_step (by repeat (first | (with_reducible first | exact HB.out | apply below_alloc | apply pw_below_drewN | apply below_drew1) | exact HB.out)) hb); clear HB; have HB := n0_; clear n0_; (try clear hb); (try clear hb2); (try clear hk); (try clear hi)) | ((with_reducible refine gate_callee (f := 80) rfl ?_); refine goesL_ (some 82) rfl rfl Try.func80 (by kernel_rfl) rfl #[.int .u64 t183] rfl (by (try simp only [List.map_toArray, List.map_cons, List.map_nil]); first | done | rfl | (simp only [List.length_drop, List.length_take]; rfl)) ?_; (with_reducible refine (hartixref2_widen.calls t183 t184 _ A31.out).mono ?_); rintro e w' ⟨rfl, ⟨nd, rfl⟩⟩; refine ⟨_, rfl, ?_⟩))
                  go_ret2
                  exact ⟨by first | rfl | (simp [errW_none, errW_some] <;> rfl) | (simp [*, errW_none, errW_some] <;> rfl), by repeat (first | (with_reducible first | exact HB.out | apply below_alloc | apply pw_below_drewN | apply below_drew1) | exact HB.out)⟩
                · rw [if_neg c27] at H
                  have c27b0 : (a0 == 61) = false := beq_eq_false_iff_ne.mpr c27
                  have c27b1 : (a0 != 61) = true := bne_iff_ne.mpr c27
                  by_cases c33 : a0 = 60
                  · rw [if_pos c33] at H
                    have c33b0 : (a0 == 60) = true := beq_iff_eq.mpr c33
                    have c33b1 : (a0 != 60) = false := bne_eq_false_iff_eq.mpr c33
                    clear c33
                    replace H := Option.bind_eq_some_iff.mp H
                    obtain ⟨⟨t185, t186⟩, A340, H⟩ := H
                    replace H : ((hartixref2_widen.f t185).bind fun t187 => (some (t187, true))) = some (r1, r2) := H
                    have A34 := Aside0.mk A340
                    clear A340
                    replace H := Option.bind_eq_some_iff.mp H
                    obtain ⟨t187, A350, H⟩ := H
                    replace H : (some (t187, true)) = some (r1, r2) := H
                    have A35 := Aside0.mk A350
                    clear A350
                    simp only [Option.some.injEq, Prod.mk.injEq] at H
                    obtain ⟨rfl, rfl⟩ := H
                    go_enter Try.func35, Try.ntmps35
                    go_wp2_with (first | ((with_reducible refine gate_callee (f := 79) rfl ?_); refine goesL_ (some 88) rfl rfl Try.func79 (by kernel_rfl) rfl #[.int .u64 a1, .int .u64 a2] rfl (by (try simp only [List.map_toArray, List.map_cons, List.map_nil]); first | done | rfl | (simp only [List.length_drop, List.length_take]; rfl)) ?_; (with_reducible refine (hartixref2_unsigned.calls k a1 a2 t185 t186 _ A34.out).mono ?_); rintro e w36 ⟨rfl, hb⟩; refine ⟨_, rfl, ?_⟩; have n0_ := Aside0.mk (below_step (by repeat (first | (with_reducible first | exact HB.out | apply below_alloc | apply pw_below_drewN | apply below_drew1) | exact HB.out)) hb); clear HB; have HB := n0_; clear n0_; (try clear hb); (try clear hb2); (try clear hk); (try clear hi)) | ((with_reducible refine gate_callee (f := 80) rfl ?_); refine goesL_ (some 92) rfl rfl Try.func80 (by kernel_rfl) rfl #[.int .u64 t185] rfl (by (try simp only [List.map_toArray, List.map_cons, List.map_nil]); first | done | rfl | (simp only [List.length_drop, List.length_take]; rfl)) ?_; (with_reducible refine (hartixref2_widen.calls t185 t187 _ A35.out).mono ?_); rintro e w' ⟨rfl, ⟨nd, rfl⟩⟩; refine ⟨_, rfl, ?_⟩))
                    go_ret2
                    exact ⟨by first | rfl | (simp [errW_none, errW_some] <;> rfl) | (simp [*, errW_none, errW_some] <;> rfl), by repeat (first | (with_reducible first | exact HB.out | apply below_alloc | apply pw_below_drewN | apply below_drew1) | exact HB.out)⟩
                  · rw [if_neg c33] at H
                    have c33b0 : (a0 == 60) = false := beq_eq_false_iff_ne.mpr c33
                    have c33b1 : (a0 != 60) = true := bne_iff_ne.mpr c33
                    by_cases c37 : a0 = 62
                    · rw [if_pos c37] at H
                      have c37b0 : (a0 == 62) = true := beq_iff_eq.mpr c37
                      have c37b1 : (a0 != 62) = false := bne_eq_false_iff_eq.mpr c37
                      clear c37
                      replace H := Option.bind_eq_some_iff.mp H
                      obtain ⟨⟨t188, t189⟩, A380, H⟩ := H
                      replace H : ((hartixref2_widen.f t189).bind fun t190 => (some (t190, true))) = some (r1, r2) := H
                      have A38 := Aside0.mk A380
                      clear A380
                      replace H := Option.bind_eq_some_iff.mp H
                      obtain ⟨t190, A390, H⟩ := H
                      replace H : (some (t190, true)) = some (r1, r2) := H
                      have A39 := Aside0.mk A390
                      clear A390
                      simp only [Option.some.injEq, Prod.mk.injEq] at H
                      obtain ⟨rfl, rfl⟩ := H
                      go_enter Try.func35, Try.ntmps35
                      go_wp2_with (first | ((with_reducible refine gate_callee (f := 79) rfl ?_); refine goesL_ (some 98) rfl rfl Try.func79 (by kernel_rfl) rfl #[.int .u64 a1, .int .u64 a2] rfl (by (try simp only [List.map_toArray, List.map_cons, List.map_nil]); first | done | rfl | (simp only [List.length_drop, List.length_take]; rfl)) ?_; (with_reducible refine (hartixref2_unsigned.calls k a1 a2 t188 t189 _ A38.out).mono ?_); rintro e w40 ⟨rfl, hb⟩; refine ⟨_, rfl, ?_⟩; have n0_ := Aside0.mk (below_step (by repeat (first | (with_reducible first | exact HB.out | apply below_alloc | apply pw_below_drewN | apply below_drew1) | exact HB.out)) hb); clear HB; have HB := n0_; clear n0_; (try clear hb); (try clear hb2); (try clear hk); (try clear hi)) | ((with_reducible refine gate_callee (f := 80) rfl ?_); refine goesL_ (some 102) rfl rfl Try.func80 (by kernel_rfl) rfl #[.int .u64 t189] rfl (by (try simp only [List.map_toArray, List.map_cons, List.map_nil]); first | done | rfl | (simp only [List.length_drop, List.length_take]; rfl)) ?_; (with_reducible refine (hartixref2_widen.calls t189 t190 _ A39.out).mono ?_); rintro e w' ⟨rfl, ⟨nd, rfl⟩⟩; refine ⟨_, rfl, ?_⟩))
                      go_ret2
                      exact ⟨by first | rfl | (simp [errW_none, errW_some] <;> rfl) | (simp [*, errW_none, errW_some] <;> rfl), by repeat (first | (with_reducible first | exact HB.out | apply below_alloc | apply pw_below_drewN | apply below_drew1) | exact HB.out)⟩
                    · rw [if_neg c37] at H
                      have c37b0 : (a0 == 62) = false := beq_eq_false_iff_ne.mpr c37
                      have c37b1 : (a0 != 62) = true := bne_iff_ne.mpr c37
                      simp only [Option.some.injEq, Prod.mk.injEq] at H
                      obtain ⟨rfl, rfl⟩ := H
                      go_enter Try.func35, Try.ntmps35
                      go_wp2
                      go_ret2
                      exact ⟨by first | rfl | (simp [errW_none, errW_some] <;> rfl) | (simp [*, errW_none, errW_some] <;> rfl), by repeat (first | (with_reducible first | exact HB.out | apply below_alloc | apply pw_below_drewN | apply below_drew1) | exact HB.out)⟩

-- NOT PRINTED: function 19 (hartixref2_Do)

-- NOT PRINTED: function 5 (hartixlaw2_AluDoes)

end Go.Proofs.Ytdlhapjlpkadnaa.PAluDoes
