/- hartixref1.Reads: the document's own. By an AI agent; printed by wip/gen_refreads.py. -/
import Derived.Test.YtgjiojcdifjhcaaDoorReads
set_option linter.unusedVariables false
set_option linter.unusedSimpArgs false
namespace Go.Proofs.YtgjiojcdifjhcaaDoor
open Go.RowKit
set_option maxRecDepth 100000 in
set_option maxHeartbeats 8000000 in
theorem refreads_any (a0 a1 a2 a3 a4 a5 : Int) (w : World) : Calls Tryd.prog 47 #[.agg #[.int .i64 a0, .int .i64 a1, .int .i64 a2, .int .i64 a3, .int .i64 a4, .int .i64 a5]] w (RegsPost (rdR a0 a1 a2 a3 a4 a5) w) := by
  have B := Lib.hid ((Below.refl w.heap.size w).alloc (Nat.le_refl _) (.cells #[.int .i64 a0, .int .i64 a1, .int .i64 a2, .int .i64 a3, .int .i64 a4, .int .i64 a5] 46))
  go_enter Tryd.func47, Tryd.ntmps47
  go_wp2_with fail
  refine (refrefuse_any a0 a1 a2 a3 a4 a5 _).mono ?_
  rintro e w1 ⟨rfl, hb1⟩
  rw [← encR_barR]
  obtain ⟨hc1, -⟩ := bcell hb1
  have hz1 := hb1.size
  simp only [World.size_alloc] at hc1 hz1
  replace B := Lib.hid (B.out.trans (hb1.mono B.out.size))
  clear hb1
  by_cases z : (encR a0 a1 a2 a3 a4 a5).2.2 = 0
  · have Z := Lib.hid z
    have hz : ((encR a0 a1 a2 a3 a4 a5).2.2 == 0) = true := by simpa using z
    have hz' : ((encR a0 a1 a2 a3 a4 a5).2.2 != 0) = false := by simpa using z
    obtain ⟨k, rfl, p1, p2, h0, h1, h2, h3, hi, hw⟩ := encR_ok z
    have H1 := Lib.hid h1
    have H2 := Lib.hid h2
    clear hw hi h1 h2 h3 h0
    have R := Lib.hid (fun w => row_at k p1 p2 w)
    have HS := Lib.hid (shN_rng k p2 p1)
    have HE := Lib.hid (shN_eq k p2)
    clear p1 p2
    have hv := Lib.hid (show rdR (k : Int) a1 a2 a3 a4 a5 = rdL (rdA (shN k) a2) (rdB (shN k) a3) by unfold rdR; rw [if_pos Z.out, Int.toNat_natCast])
    have f0 : w1.cell? ⟨w.heap.size, 0, none⟩ = some (.int .i64 (k : Int)) := by rw [hc1 _ _ (by omega)]; simp [go_sem]
    have f2 : w1.cell? ⟨w.heap.size, 2, none⟩ = some (.int .i64 a2) := by rw [hc1 _ _ (by omega)]; simp [go_sem]
    have f3 : w1.cell? ⟨w.heap.size, 3, none⟩ = some (.int .i64 a3) := by rw [hc1 _ _ (by omega)]; simp [go_sem]
    clear hc1 z Z
    go_wp2_with fail
    refine (R.out _).mono ?_
    rintro e w2 ⟨rfl, hb⟩
    unfold rowCells
    rw [HE.out]
    generalize shN k = s at *
    clear HE R
    obtain ⟨hc2, -⟩ := bcell hb
    have hz2 := hb.size
    replace B := Lib.hid (B.out.trans (hb.mono B.out.size))
    have f2' : w2.cell? ⟨w.heap.size, 2, none⟩ = some (.int .i64 a2) := by rw [hc2 _ _ (by omega)]; exact f2
    have f3' : w2.cell? ⟨w.heap.size, 3, none⟩ = some (.int .i64 a3) := by rw [hc2 _ _ (by omega)]; exact f3
    clear hb f0 f2 f3 hc2
    go_wp2_with fail
    refine (has_at s HS.out.1 HS.out.2 _).mono ?_
    rintro e w3 ⟨rfl, hb⟩
    unfold hasCells
    obtain ⟨hc3, -⟩ := bcell hb
    have hz3 := hb.size
    simp only [World.size_alloc] at hc3 hz3
    have B2 := Lib.hid (B.out.alloc (Nat.le_trans (by omega) hz2) (.cells #[.string (nm k), .int .i64 s, .int .i64 (oc k), .int .i64 (f3 k), .int .i64 (f7 k), .int .u32 (wd k)] 59))
    replace B2 := Lib.hid ((B2.out.trans (hb.mono B2.out.size)))
    clear hb
    have z3 : w.heap.size < w3.heap.size := by omega
    have z4 : w2.heap.size < w3.heap.size := by omega
    have g2 : w3.cell? ⟨w.heap.size, 2, none⟩ = some (.int .i64 a2) := by rw [hc3 _ _ (by omega)]; simp [go_sem, f2', show w.heap.size < w2.heap.size by omega]
    have g3 : w3.cell? ⟨w.heap.size, 3, none⟩ = some (.int .i64 a3) := by rw [hc3 _ _ (by omega)]; simp [go_sem, f3', show w.heap.size < w2.heap.size by omega]
    have g4 : w3.cell? ⟨w2.heap.size, 1, none⟩ = some (.int .i64 s) := by rw [hc3 _ _ (by omega)]; simp [go_sem]
    clear hc3 f2' f3' hz hz' hz1 hz2 hz3 B
    rcases sh_two s (by have := HS.out; omega) HS.out.1 with ⟨hs, b1, b2⟩ | ⟨hs, b1, b2⟩ | ⟨hs, b2, b1⟩
    · obtain ⟨x0, x1⟩ : 0 ≤ a2 ∧ a2 ≤ 31 := by have h1 := H1.out; unfold okF mostF at h1; rw [b1] at h1; simpa using h1
      obtain ⟨y0, y1⟩ : 0 ≤ a3 ∧ a3 ≤ 31 := by have h2 := H2.out; unfold okF mostF at h2; rw [b2] at h2; simpa using h2
      have HV := Lib.hid (show rdR (k : Int) a1 a2 a3 a4 a5 = rdL a2 a3 by rw [hv.out]; unfold rdA rdB; rw [if_pos ⟨b1, by omega⟩, if_pos b2])
      have e10 : ((s : Int) != 10) = true := by simp; omega
      clear H1 H2 hv hs HS
      rcases Int.lt_trichotomy a3 a2 with c | c | c
      · by_cases c0 : a3 = 0
        · replace HV := Lib.hid (show rdR (k : Int) a1 a2 a3 a4 a5 = [a2] by rw [HV.out]; unfold rdL; rw [if_pos c, if_pos c0])
          have e0 : (a3 != 0) = false := by simp; omega
          have e1 : decide (a3 < a2) = true := by simp; omega
          have e2 : (a2 != 0) = true := by simp; omega
          have e3 : (a2 != a3) = true := by simp; omega
          have e4 : (a3 != a2) = true := by simp; omega
          have e5 : (a3 == 0) = true := by simp; omega
          have e6 : (a2 == 0) = false := by simp; omega
          clear x0 x1 y0 y1 c c0
          go_wp2_with (first | (at_builtin; refine app_step rfl _ _ rfl w.heap.size _ _ _ rfl (World.ownsRow_nil _ _ _ _) _ a2 rfl (by simp [go_sem]) (by decide) (by simp; omega) ?_) | fail)
          intro g_1 cap1 v2 hown1 hgrow hat hlt
          have B3 := Lib.hid (((B2.out.alloc (by omega) _).alloc (by first | omega | (simp; omega)) (.cells #[.int .i64 a2] 3)).grown hgrow (by simp; omega) (by intro k hk; simp [Value.ownBlock] at hk ))
          have y2 : w.heap.size < v2.heap.size := by have := hgrow.size; simp at this; omega
          clear hgrow hat hlt
          go_wp2_with fail
          go_ret
          exact regs_given HV.out hown1 rfl rfl B3.out
        · replace HV := Lib.hid (show rdR (k : Int) a1 a2 a3 a4 a5 = [a3, a2] by rw [HV.out]; unfold rdL; rw [if_pos c, if_neg c0])
          have e0 : (a3 != 0) = true := by simp; omega
          have e1 : decide (a3 < a2) = true := by simp; omega
          have e2 : (a2 != 0) = true := by simp; omega
          have e3 : (a2 != a3) = true := by simp; omega
          have e4 : (a3 != a2) = true := by simp; omega
          have e5 : (a3 == 0) = false := by simp; omega
          have e6 : (a2 == 0) = false := by simp; omega
          clear x0 x1 y0 y1 c c0
          go_wp2_with (first | (at_builtin; refine app_step rfl _ _ rfl w.heap.size _ _ _ rfl (World.ownsRow_nil _ _ _ _) _ a3 rfl (by simp [go_sem]) (by decide) (by simp; omega) ?_) | fail)
          intro g_1 cap1 v2 hown1 hgrow hat hlt
          have B3 := Lib.hid (((B2.out.alloc (by omega) _).alloc (by first | omega | (simp; omega)) (.cells #[.int .i64 a3] 3)).grown hgrow (by simp; omega) (by intro k hk; simp [Value.ownBlock] at hk ))
          have y2 : w.heap.size < v2.heap.size := by have := hgrow.size; simp at this; omega
          have hg1 : w.heap.size < g_1 := by simp [Value.ownBlock] at hat; omega
          clear hgrow hat hlt
          go_wp2_with (first | (at_builtin; refine app_step rfl _ _ rfl w.heap.size _ _ _ rfl (hown1.alloc _) _ a2 rfl (by simp [go_sem]) (by decide) (by simp; omega) ?_) | fail)
          intro g_2 cap2 v3 hown2 hgrow hat hlt
          have B4 := Lib.hid ((B3.out.alloc (by first | omega | (simp; omega)) (.cells #[.int .i64 a2] 3)).grown hgrow (by simp; omega) (by intro k hk; simp [Value.ownBlock] at hk <;> omega))
          have y3 : w.heap.size < v3.heap.size := by have := hgrow.size; simp at this; omega
          clear hgrow hat hlt
          go_wp2_with fail
          go_ret
          exact regs_given HV.out hown2 rfl rfl B4.out
      · by_cases c0 : a3 = 0
        · replace HV := Lib.hid (show rdR (k : Int) a1 a2 a3 a4 a5 = [] by rw [HV.out]; unfold rdL; rw [if_neg (by omega), if_pos (by omega), if_pos c0])
          have e0 : (a3 != 0) = false := by simp; omega
          have e1 : decide (a3 < a2) = false := by simp; omega
          have e2 : (a2 != 0) = false := by simp; omega
          have e3 : (a2 != a3) = false := by simp; omega
          have e4 : (a3 != a2) = false := by simp; omega
          have e5 : (a3 == 0) = true := by simp; omega
          have e6 : (a2 == 0) = true := by simp; omega
          clear x0 x1 y0 y1 c c0
          go_wp2_with fail
          go_ret
          exact regs_given HV.out (World.ownsRow_nil _ _ _ _) rfl rfl (B2.out.alloc (by omega) _)
        · replace HV := Lib.hid (show rdR (k : Int) a1 a2 a3 a4 a5 = [a3] by rw [HV.out]; unfold rdL; rw [if_neg (by omega), if_pos (by omega), if_neg c0])
          have e0 : (a3 != 0) = true := by simp; omega
          have e1 : decide (a3 < a2) = false := by simp; omega
          have e2 : (a2 != 0) = true := by simp; omega
          have e3 : (a2 != a3) = false := by simp; omega
          have e4 : (a3 != a2) = false := by simp; omega
          have e5 : (a3 == 0) = false := by simp; omega
          have e6 : (a2 == 0) = false := by simp; omega
          clear x0 x1 y0 y1 c c0
          go_wp2_with (first | (at_builtin; refine app_step rfl _ _ rfl w.heap.size _ _ _ rfl (World.ownsRow_nil _ _ _ _) _ a3 rfl (by simp [go_sem]) (by decide) (by simp; omega) ?_) | fail)
          intro g_1 cap1 v2 hown1 hgrow hat hlt
          have B3 := Lib.hid (((B2.out.alloc (by omega) _).alloc (by first | omega | (simp; omega)) (.cells #[.int .i64 a3] 3)).grown hgrow (by simp; omega) (by intro k hk; simp [Value.ownBlock] at hk ))
          have y2 : w.heap.size < v2.heap.size := by have := hgrow.size; simp at this; omega
          clear hgrow hat hlt
          go_wp2_with fail
          go_ret
          exact regs_given HV.out hown1 rfl rfl B3.out
      · by_cases c0 : a2 = 0
        · replace HV := Lib.hid (show rdR (k : Int) a1 a2 a3 a4 a5 = [a3] by rw [HV.out]; unfold rdL; rw [if_neg (by omega), if_neg (by omega), if_pos c0])
          have e0 : (a3 != 0) = true := by simp; omega
          have e1 : decide (a3 < a2) = false := by simp; omega
          have e2 : (a2 != 0) = false := by simp; omega
          have e3 : (a2 != a3) = true := by simp; omega
          have e4 : (a3 != a2) = true := by simp; omega
          have e5 : (a3 == 0) = false := by simp; omega
          have e6 : (a2 == 0) = true := by simp; omega
          clear x0 x1 y0 y1 c c0
          go_wp2_with (first | (at_builtin; refine app_step rfl _ _ rfl w.heap.size _ _ _ rfl (World.ownsRow_nil _ _ _ _) _ a3 rfl (by simp [go_sem]) (by decide) (by simp; omega) ?_) | fail)
          intro g_1 cap1 v2 hown1 hgrow hat hlt
          have B3 := Lib.hid (((B2.out.alloc (by omega) _).alloc (by first | omega | (simp; omega)) (.cells #[.int .i64 a3] 3)).grown hgrow (by simp; omega) (by intro k hk; simp [Value.ownBlock] at hk ))
          have y2 : w.heap.size < v2.heap.size := by have := hgrow.size; simp at this; omega
          clear hgrow hat hlt
          go_wp2_with fail
          go_ret
          exact regs_given HV.out hown1 rfl rfl B3.out
        · replace HV := Lib.hid (show rdR (k : Int) a1 a2 a3 a4 a5 = [a2, a3] by rw [HV.out]; unfold rdL; rw [if_neg (by omega), if_neg (by omega), if_neg c0])
          have e0 : (a3 != 0) = true := by simp; omega
          have e1 : decide (a3 < a2) = false := by simp; omega
          have e2 : (a2 != 0) = true := by simp; omega
          have e3 : (a2 != a3) = true := by simp; omega
          have e4 : (a3 != a2) = true := by simp; omega
          have e5 : (a3 == 0) = false := by simp; omega
          have e6 : (a2 == 0) = false := by simp; omega
          clear x0 x1 y0 y1 c c0
          go_wp2_with (first | (at_builtin; refine app_step rfl _ _ rfl w.heap.size _ _ _ rfl (World.ownsRow_nil _ _ _ _) _ a2 rfl (by simp [go_sem]) (by decide) (by simp; omega) ?_) | fail)
          intro g_1 cap1 v2 hown1 hgrow hat hlt
          have B3 := Lib.hid (((B2.out.alloc (by omega) _).alloc (by first | omega | (simp; omega)) (.cells #[.int .i64 a2] 3)).grown hgrow (by simp; omega) (by intro k hk; simp [Value.ownBlock] at hk ))
          have y2 : w.heap.size < v2.heap.size := by have := hgrow.size; simp at this; omega
          have hg1 : w.heap.size < g_1 := by simp [Value.ownBlock] at hat; omega
          clear hgrow hat hlt
          go_wp2_with (first | (at_builtin; refine app_step rfl _ _ rfl w.heap.size _ _ _ rfl (hown1.alloc _) _ a3 rfl (by simp [go_sem]) (by decide) (by simp; omega) ?_) | fail)
          intro g_2 cap2 v3 hown2 hgrow hat hlt
          have B4 := Lib.hid ((B3.out.alloc (by first | omega | (simp; omega)) (.cells #[.int .i64 a3] 3)).grown hgrow (by simp; omega) (by intro k hk; simp [Value.ownBlock] at hk <;> omega))
          have y3 : w.heap.size < v3.heap.size := by have := hgrow.size; simp at this; omega
          clear hgrow hat hlt
          go_wp2_with fail
          go_ret
          exact regs_given HV.out hown2 rfl rfl B4.out
    · obtain ⟨x0, x1⟩ : 0 ≤ a2 ∧ a2 ≤ 31 := by have h1 := H1.out; unfold okF mostF at h1; rw [b1] at h1; simpa using h1
      obtain ⟨y0, y1⟩ : 0 ≤ a3 ∧ a3 ≤ 0 := by have h2 := H2.out; unfold okF mostF at h2; rw [b2] at h2; simpa using h2
      obtain rfl : a3 = 0 := by omega
      have HV := Lib.hid (show rdR (k : Int) a1 a2 0 a4 a5 = rdL a2 0 by rw [hv.out]; unfold rdA rdB; rw [if_pos ⟨b1, by omega⟩, if_neg (by simp [b2])])
      have e10 : ((s : Int) != 10) = true := by simp; omega
      clear H1 H2 hv hs HS
      by_cases c : a2 = 0
      · replace HV := Lib.hid (show rdR (k : Int) a1 a2 0 a4 a5 = [] by rw [HV.out]; unfold rdL; rw [if_neg (by omega), if_pos (by omega), if_pos rfl])
        have e0 : decide (0 < a2) = false := by simp; omega
        have e1 : (a2 != 0) = false := by simp; omega
        have e2 : (a2 == 0) = true := by simp; omega
        clear x0 x1 y0 y1 c
        go_wp2_with fail
        go_ret
        exact regs_given HV.out (World.ownsRow_nil _ _ _ _) rfl rfl (B2.out.alloc (by omega) _)
      · replace HV := Lib.hid (show rdR (k : Int) a1 a2 0 a4 a5 = [a2] by rw [HV.out]; unfold rdL; rw [if_pos (by omega), if_pos rfl])
        have e0 : decide (0 < a2) = true := by simp; omega
        have e1 : (a2 != 0) = true := by simp; omega
        have e2 : (a2 == 0) = false := by simp; omega
        clear x0 x1 y0 y1 c
        go_wp2_with (first | (at_builtin; refine app_step rfl _ _ rfl w.heap.size _ _ _ rfl (World.ownsRow_nil _ _ _ _) _ a2 rfl (by simp [go_sem]) (by decide) (by simp; omega) ?_) | fail)
        intro g_1 cap1 v2 hown1 hgrow hat hlt
        have B3 := Lib.hid (((B2.out.alloc (by omega) _).alloc (by first | omega | (simp; omega)) (.cells #[.int .i64 a2] 3)).grown hgrow (by simp; omega) (by intro k hk; simp [Value.ownBlock] at hk ))
        have y2 : w.heap.size < v2.heap.size := by have := hgrow.size; simp at this; omega
        clear hgrow hat hlt
        go_wp2_with fail
        go_ret
        exact regs_given HV.out hown1 rfl rfl B3.out
    · have hv2 : rdR (k : Int) a1 a2 a3 a4 a5 = [] := by
        rw [hv.out]; unfold rdA rdB; rw [if_neg (by intro h; exact h.2 (b1 h.1)), if_neg (by simp [b2])]; rfl
      have HV := Lib.hid hv2
      clear hv2 hv H1 H2
      rcases hh : hasB s 1 with _ | _
      · clear b1
        go_wp2_with fail
        go_ret
        exact regs_given HV.out (World.ownsRow_nil _ _ _ _) rfl rfl (B2.out.alloc (by omega) _)
      · have e0 : ((s : Int) != 10) = false := by simp; have := b1 hh; omega
        clear b1
        go_wp2_with fail
        go_ret
        exact regs_given HV.out (World.ownsRow_nil _ _ _ _) rfl rfl (B2.out.alloc (by omega) _)
  · have hz : ((encR a0 a1 a2 a3 a4 a5).2.2 == 0) = false := by simpa using z
    have hz' : ((encR a0 a1 a2 a3 a4 a5).2.2 != 0) = true := by simpa using z
    go_wp2_with fail
    go_ret
    refine regs_given (ys := []) ?_ (World.ownsRow_nil _ _ _ _) rfl rfl B.out
    unfold rdR; rw [if_neg z]
end Go.Proofs.YtgjiojcdifjhcaaDoor
