/- insn.Reads and the document's own: the registers that an instruction reads. By an AI agent; printed by wip/gen_reads.py. -/
import Derived.Test.YtgjiojcdifjhcaaDoorWrites
import Derived.Deep.AppendLies
set_option linter.unusedVariables false
set_option linter.unusedSimpArgs false
namespace Go.Proofs.YtgjiojcdifjhcaaDoor
open Go.RowKit
theorem i3 : ∃ i, Tryd.prog.info? 3 = some i ∧ i.zero = some (.int .i64 0) ∧ i.size = 1 ∧ i.bytes = 8 := by
  have h : (Tryd.prog.info? 3).map (fun i => (i.zero, i.size, i.bytes)) = some (some (.int .i64 0), 1, 8) := by kernel_rfl
  obtain ⟨i, hi, h⟩ := Option.map_eq_some_iff.1 h
  simp only [Prod.mk.injEq] at h
  exact ⟨i, hi, h.1, h.2.1, h.2.2⟩
/-- One number appended to a row of the call's own. -/
theorem app_step {ops : Array Oper} {rest : List Oper} {o : Oper} {a : Act} {Q : Exit → Act → World → Prop} {w : World} (hgd : o.guard = none) (s x : Operand)
    (ho : o.op = .call { callee := .builtin .append, args := #[s, x], argTypes := #[97, 97] }) (base : Nat) (v : Value) (n : Nat) (xs : List Value) (hs : a.eval s = v) (hown : w.ownsRow base 3 1 v n xs)
    (g0 : Nat) (y : Int) (hx : a.eval x = .slice (some ⟨g0, 0, none⟩) 1 1) (hc : w.cell? ⟨g0, 0, none⟩ = some (.int .i64 y)) (hn : n ≤ 1000000) (hbase : base ≤ w.heap.size)
    (h : ∀ g cap w', w'.ownsRow base 3 1 (.slice (some ⟨g, 0, none⟩) (n + 1) cap) (n + 1) (xs ++ [.int .i64 y]) → w.grownBy w' v.ownBlock → (v.ownBlock = some g ∨ g = w.heap.size) → g < w'.heap.size → wpList Tryd.prog ops Q rest (a.put o.dst (.slice (some ⟨g, 0, none⟩) (n + 1) cap)) w') :
    wpList Tryd.prog ops Q (o :: rest) a w := by
  obtain ⟨i, hi, hz, h1, h8⟩ := i3
  refine wpList_append_lies w hgd s x 97 ho base 3 i (.int .i64 0) 1 8 Tryd.underlying97 hi hz h1 h8 rfl (by decide) v n xs hs hown ⟨g0, 0, none⟩ 1 1 [.int .i64 y] hx rfl ?_ ?_ (by decide) ?_ ?_ hbase _ rfl h
  · intro j u hj
    match j, hj with
    | 0, hj => simp at hj; subst hj; simpa [Addr.add] using hc
  · intro u hu; simp at hu; subst hu; rfl
  · unfold maxLen; omega
  · omega
def rdA (s : Nat) (r1 : Int) : Int := if hasB s 1 = true ∧ s ≠ 10 then r1 else 0
def rdB (s : Nat) (r2 : Int) : Int := if hasB s 2 = true then r2 else 0
def rdL (a b : Int) : List Int := if b < a then (if b = 0 then [a] else [b, a]) else if a = b then (if b = 0 then [] else [b]) else (if a = 0 then [b] else [a, b])
def rdR (op rd r1 r2 imm csr : Int) : List Int := if (encR op rd r1 r2 imm csr).2.2 = 0 then rdL (rdA (shN op.toNat) r1) (rdB (shN op.toNat) r2) else []
def RegsPost (xs : List Int) (w : World) (e : Ending) (w' : World) : Prop := ∃ v, e = .returned v ∧ w'.ownsRow w.heap.size 3 1 v xs.length (xs.map (Value.int .i64)) ∧ Below w.heap.size w w'
theorem regs_given {xs ys : List Int} {w w' : World} {v : Value} {n : Nat} {zs : List Value} (h : xs = ys) (ho : w'.ownsRow w.heap.size 3 1 v n zs) (hz : zs = ys.map (Value.int .i64)) (hn : n = ys.length) (hb : Below w.heap.size w w') : RegsPost xs w (.returned v) w' := by
  subst h; subst hz; subst hn; exact ⟨v, rfl, ho, hb⟩
theorem sh_two : ∀ s, s < 15 → 1 ≤ s → ((s = 1 ∨ s = 6 ∨ s = 7 ∨ s = 12) ∧ hasB s 1 = true ∧ hasB s 2 = true) ∨ ((s = 2 ∨ s = 3 ∨ s = 4 ∨ s = 5 ∨ s = 13) ∧ hasB s 1 = true ∧ hasB s 2 = false) ∨ ((s = 8 ∨ s = 9 ∨ s = 10 ∨ s = 11 ∨ s = 14) ∧ hasB s 2 = false ∧ (hasB s 1 = true → s = 10)) := by
  intro s h1 h2
  have h : s = 1 ∨ s = 2 ∨ s = 3 ∨ s = 4 ∨ s = 5 ∨ s = 6 ∨ s = 7 ∨ s = 8 ∨ s = 9 ∨ s = 10 ∨ s = 11 ∨ s = 12 ∨ s = 13 ∨ s = 14 := by omega
  rcases h with rfl | rfl | rfl | rfl | rfl | rfl | rfl | rfl | rfl | rfl | rfl | rfl | rfl | rfl <;> simp <;> decide
set_option maxRecDepth 100000 in
set_option maxHeartbeats 4000000 in
theorem reads_any (a0 a1 a2 a3 a4 a5 : Int) (w : World) (ht : TabsW w) : Calls Tryd.prog 48 #[.agg #[.int .i64 a0, .int .i64 a1, .int .i64 a2, .int .i64 a3, .int .i64 a4, .int .i64 a5]] w (RegsPost (rdR a0 a1 a2 a3 a4 a5) w) := by
  have B := Lib.hid ((Below.refl w.heap.size w).alloc (Nat.le_refl _) (.cells #[.int .i64 a0, .int .i64 a1, .int .i64 a2, .int .i64 a3, .int .i64 a4, .int .i64 a5] 46))
  have T := Lib.hid (ht.after ((Below.refl w.heap.size w).alloc (Nat.le_refl _) (.cells #[.int .i64 a0, .int .i64 a1, .int .i64 a2, .int .i64 a3, .int .i64 a4, .int .i64 a5] 46)))
  clear ht
  go_enter Tryd.func48, Tryd.ntmps48
  go_wp2_with fail
  refine (encode_any a0 a1 a2 a3 a4 a5 _ T.out).mono ?_
  rintro e w1 ⟨er, rfl, her, hb1⟩
  obtain ⟨hc1, -⟩ := bcell hb1
  have hz1 := hb1.size
  simp only [World.size_alloc] at hc1 hz1
  replace B := Lib.hid (B.out.trans (hb1.mono B.out.size))
  replace T := Lib.hid (T.out.after hb1)
  clear hb1
  have f0 : w1.cell? ⟨w.heap.size, 0, none⟩ = some (.int .i64 a0) := by rw [hc1 _ _ (by omega)]; simp [go_sem]
  have f2 : w1.cell? ⟨w.heap.size, 2, none⟩ = some (.int .i64 a2) := by rw [hc1 _ _ (by omega)]; simp [go_sem]
  have f3 : w1.cell? ⟨w.heap.size, 3, none⟩ = some (.int .i64 a3) := by rw [hc1 _ _ (by omega)]; simp [go_sem]
  have hzz : w.heap.size < w1.heap.size := by omega
  clear hc1
  rcases her with ⟨z, rfl⟩ | ⟨z, g, rfl, _⟩
  · have Z := Lib.hid z
    obtain ⟨k, rfl, p1, p2, h0, h1, h2, h3, hi, hw⟩ := encR_ok z
    clear z hw hi h0 h3
    have hk := T.out.sh k p2
    have HE := shN_eq k p2
    obtain ⟨s1, s2⟩ := shN_rng k p2 p1
    have hv := Lib.hid (show rdR (k : Int) a1 a2 a3 a4 a5 = rdL (rdA (shN k) a2) (rdB (shN k) a3) by unfold rdR; rw [if_pos Z.out, Int.toNat_natCast])
    rw [HE] at hk
    clear HE Z
    generalize shN k = s at *
    have q1 : decide (0 ≤ (k : Int)) = true := by simp
    have q2 : decide ((k : Int) < 77) = true := by simp; omega
    have hnil := World.ownsRow_nil w1 w.heap.size 3 1
    rcases sh_two s (by omega) s1 with ⟨hs, b1, b2⟩ | ⟨hs, b1, b2⟩ | ⟨hs, b2, b1⟩
    · obtain ⟨x0, x1⟩ : 0 ≤ a2 ∧ a2 ≤ 31 := by unfold okF mostF at h1; rw [b1] at h1; simpa using h1
      obtain ⟨y0, y1⟩ : 0 ≤ a3 ∧ a3 ≤ 31 := by unfold okF mostF at h2; rw [b2] at h2; simpa using h2
      have HV := Lib.hid (show rdR (k : Int) a1 a2 a3 a4 a5 = rdL a2 a3 by rw [hv.out]; unfold rdA rdB; rw [if_pos ⟨b1, by omega⟩, if_pos b2])
      clear h1 h2 hv b1 b2
      rcases Int.lt_trichotomy a3 a2 with c | c | c
      · by_cases c0 : a3 = 0
        · replace HV := Lib.hid (show rdR (k : Int) a1 a2 a3 a4 a5 = [a2] by rw [HV.out]; unfold rdL; rw [if_pos c, if_pos c0])
          have e0 : (a3 != 0) = false := by simp; omega
          have e1 : decide (a3 < a2) = true := by simp; omega
          have e2 : (a2 != 0) = true := by simp; omega
          have e3 : decide (a2 < a3) = false := by simp; omega
          clear x0 x1 y0 y1 c c0
          rcases hs with rfl | rfl | rfl | rfl
          all_goals
            go_wp2_with (first | (at_builtin; refine app_step rfl _ _ rfl w.heap.size _ _ _ rfl (hnil.alloc _) _ a2 rfl (by simp [go_sem]) (by decide) (by simp; omega) ?_) | fail)
            intro g1 cap1 w2 hown1 hgrow hat hlt
            have B2 := Lib.hid ((B.out.alloc (by omega) (.cells #[.int .i64 a2] 3)).grown hgrow (by simp; omega) (by intro k hk; simp [Value.ownBlock] at hk ))
            have z2 : w.heap.size < w2.heap.size := by have := hgrow.size; simp at this; omega
            have k2 : w2.cell? ⟨w.heap.size, 2, none⟩ = some (.int .i64 a2) := hgrow.cell (by simp [go_sem, f2, hzz]) (by simp [Value.ownBlock])
            have k3 : w2.cell? ⟨w.heap.size, 3, none⟩ = some (.int .i64 a3) := hgrow.cell (by simp [go_sem, f3, hzz]) (by simp [Value.ownBlock])
            clear hgrow hat hlt
            go_wp2_with fail
            go_ret
            exact regs_given HV.out hown1 rfl rfl B2.out
        · replace HV := Lib.hid (show rdR (k : Int) a1 a2 a3 a4 a5 = [a3, a2] by rw [HV.out]; unfold rdL; rw [if_pos c, if_neg c0])
          have e0 : (a3 != 0) = true := by simp; omega
          have e1 : decide (a3 < a2) = true := by simp; omega
          have e2 : (a2 != 0) = true := by simp; omega
          have e3 : decide (a2 < a3) = false := by simp; omega
          clear x0 x1 y0 y1 c c0
          rcases hs with rfl | rfl | rfl | rfl
          all_goals
            go_wp2_with (first | (at_builtin; refine app_step rfl _ _ rfl w.heap.size _ _ _ rfl (hnil.alloc _) _ a3 rfl (by simp [go_sem]) (by decide) (by simp; omega) ?_) | fail)
            intro g1 cap1 w2 hown1 hgrow hat hlt
            have B2 := Lib.hid ((B.out.alloc (by omega) (.cells #[.int .i64 a3] 3)).grown hgrow (by simp; omega) (by intro k hk; simp [Value.ownBlock] at hk ))
            have z2 : w.heap.size < w2.heap.size := by have := hgrow.size; simp at this; omega
            have hg1 : w.heap.size < g1 := by simp [Value.ownBlock] at hat; omega
            have k2 : w2.cell? ⟨w.heap.size, 2, none⟩ = some (.int .i64 a2) := hgrow.cell (by simp [go_sem, f2, hzz]) (by simp [Value.ownBlock])
            have k3 : w2.cell? ⟨w.heap.size, 3, none⟩ = some (.int .i64 a3) := hgrow.cell (by simp [go_sem, f3, hzz]) (by simp [Value.ownBlock])
            clear hgrow hat hlt
            go_wp2_with (first | (at_builtin; refine app_step rfl _ _ rfl w.heap.size _ _ _ rfl (hown1.alloc _) _ a2 rfl (by simp [go_sem]) (by decide) (by simp; omega) ?_) | fail)
            intro g2 cap2 w3 hown2 hgrow hat hlt
            have B3 := Lib.hid ((B2.out.alloc (by omega) (.cells #[.int .i64 a2] 3)).grown hgrow (by simp; omega) (by intro k hk; simp [Value.ownBlock] at hk <;> omega))
            have z3 : w.heap.size < w3.heap.size := by have := hgrow.size; simp at this; omega
            have m2 : w3.cell? ⟨w.heap.size, 2, none⟩ = some (.int .i64 a2) := hgrow.cell (by simp [go_sem, k2, z2]) (by simp [Value.ownBlock]; omega)
            have m3 : w3.cell? ⟨w.heap.size, 3, none⟩ = some (.int .i64 a3) := hgrow.cell (by simp [go_sem, k3, z2]) (by simp [Value.ownBlock]; omega)
            clear hgrow hat hlt
            go_wp2_with fail
            go_ret
            exact regs_given HV.out hown2 rfl rfl B3.out
      · by_cases c0 : a3 = 0
        · replace HV := Lib.hid (show rdR (k : Int) a1 a2 a3 a4 a5 = [] by rw [HV.out]; unfold rdL; rw [if_neg (by omega), if_pos (by omega), if_pos c0])
          have e0 : (a3 != 0) = false := by simp; omega
          have e1 : decide (a3 < a2) = false := by simp; omega
          have e2 : (a2 != 0) = false := by simp; omega
          have e3 : decide (a2 < a3) = false := by simp; omega
          clear x0 x1 y0 y1 c c0
          rcases hs with rfl | rfl | rfl | rfl
          all_goals
            go_wp2_with fail
            go_ret
            exact regs_given HV.out hnil rfl rfl B.out
        · replace HV := Lib.hid (show rdR (k : Int) a1 a2 a3 a4 a5 = [a2] by rw [HV.out]; unfold rdL; rw [if_neg (by omega), if_pos (by omega), if_neg c0, c])
          have e0 : (a3 != 0) = true := by simp; omega
          have e1 : decide (a3 < a2) = false := by simp; omega
          have e2 : (a2 != 0) = true := by simp; omega
          have e3 : decide (a2 < a3) = false := by simp; omega
          clear x0 x1 y0 y1 c c0
          rcases hs with rfl | rfl | rfl | rfl
          all_goals
            go_wp2_with (first | (at_builtin; refine app_step rfl _ _ rfl w.heap.size _ _ _ rfl (hnil.alloc _) _ a2 rfl (by simp [go_sem]) (by decide) (by simp; omega) ?_) | fail)
            intro g1 cap1 w2 hown1 hgrow hat hlt
            have B2 := Lib.hid ((B.out.alloc (by omega) (.cells #[.int .i64 a2] 3)).grown hgrow (by simp; omega) (by intro k hk; simp [Value.ownBlock] at hk ))
            have z2 : w.heap.size < w2.heap.size := by have := hgrow.size; simp at this; omega
            have k2 : w2.cell? ⟨w.heap.size, 2, none⟩ = some (.int .i64 a2) := hgrow.cell (by simp [go_sem, f2, hzz]) (by simp [Value.ownBlock])
            have k3 : w2.cell? ⟨w.heap.size, 3, none⟩ = some (.int .i64 a3) := hgrow.cell (by simp [go_sem, f3, hzz]) (by simp [Value.ownBlock])
            clear hgrow hat hlt
            go_wp2_with fail
            go_ret
            exact regs_given HV.out hown1 rfl rfl B2.out
      · by_cases c0 : a2 = 0
        · replace HV := Lib.hid (show rdR (k : Int) a1 a2 a3 a4 a5 = [a3] by rw [HV.out]; unfold rdL; rw [if_neg (by omega), if_neg (by omega), if_pos c0])
          have e0 : (a3 != 0) = true := by simp; omega
          have e1 : decide (a3 < a2) = false := by simp; omega
          have e2 : (a2 != 0) = false := by simp; omega
          have e3 : decide (a2 < a3) = true := by simp; omega
          clear x0 x1 y0 y1 c c0
          rcases hs with rfl | rfl | rfl | rfl
          all_goals
            go_wp2_with (first | (at_builtin; refine app_step rfl _ _ rfl w.heap.size _ _ _ rfl (hnil.alloc _) _ a3 rfl (by simp [go_sem]) (by decide) (by simp; omega) ?_) | fail)
            intro g1 cap1 w2 hown1 hgrow hat hlt
            have B2 := Lib.hid ((B.out.alloc (by omega) (.cells #[.int .i64 a3] 3)).grown hgrow (by simp; omega) (by intro k hk; simp [Value.ownBlock] at hk ))
            have z2 : w.heap.size < w2.heap.size := by have := hgrow.size; simp at this; omega
            have k2 : w2.cell? ⟨w.heap.size, 2, none⟩ = some (.int .i64 a2) := hgrow.cell (by simp [go_sem, f2, hzz]) (by simp [Value.ownBlock])
            have k3 : w2.cell? ⟨w.heap.size, 3, none⟩ = some (.int .i64 a3) := hgrow.cell (by simp [go_sem, f3, hzz]) (by simp [Value.ownBlock])
            clear hgrow hat hlt
            go_wp2_with fail
            go_ret
            exact regs_given HV.out hown1 rfl rfl B2.out
        · replace HV := Lib.hid (show rdR (k : Int) a1 a2 a3 a4 a5 = [a2, a3] by rw [HV.out]; unfold rdL; rw [if_neg (by omega), if_neg (by omega), if_neg c0])
          have e0 : (a3 != 0) = true := by simp; omega
          have e1 : decide (a3 < a2) = false := by simp; omega
          have e2 : (a2 != 0) = true := by simp; omega
          have e3 : decide (a2 < a3) = true := by simp; omega
          clear x0 x1 y0 y1 c c0
          rcases hs with rfl | rfl | rfl | rfl
          all_goals
            go_wp2_with (first | (at_builtin; refine app_step rfl _ _ rfl w.heap.size _ _ _ rfl (hnil.alloc _) _ a2 rfl (by simp [go_sem]) (by decide) (by simp; omega) ?_) | fail)
            intro g1 cap1 w2 hown1 hgrow hat hlt
            have B2 := Lib.hid ((B.out.alloc (by omega) (.cells #[.int .i64 a2] 3)).grown hgrow (by simp; omega) (by intro k hk; simp [Value.ownBlock] at hk ))
            have z2 : w.heap.size < w2.heap.size := by have := hgrow.size; simp at this; omega
            have hg1 : w.heap.size < g1 := by simp [Value.ownBlock] at hat; omega
            have k2 : w2.cell? ⟨w.heap.size, 2, none⟩ = some (.int .i64 a2) := hgrow.cell (by simp [go_sem, f2, hzz]) (by simp [Value.ownBlock])
            have k3 : w2.cell? ⟨w.heap.size, 3, none⟩ = some (.int .i64 a3) := hgrow.cell (by simp [go_sem, f3, hzz]) (by simp [Value.ownBlock])
            clear hgrow hat hlt
            go_wp2_with (first | (at_builtin; refine app_step rfl _ _ rfl w.heap.size _ _ _ rfl (hown1.alloc _) _ a3 rfl (by simp [go_sem]) (by decide) (by simp; omega) ?_) | fail)
            intro g2 cap2 w3 hown2 hgrow hat hlt
            have B3 := Lib.hid ((B2.out.alloc (by omega) (.cells #[.int .i64 a3] 3)).grown hgrow (by simp; omega) (by intro k hk; simp [Value.ownBlock] at hk <;> omega))
            have z3 : w.heap.size < w3.heap.size := by have := hgrow.size; simp at this; omega
            have m2 : w3.cell? ⟨w.heap.size, 2, none⟩ = some (.int .i64 a2) := hgrow.cell (by simp [go_sem, k2, z2]) (by simp [Value.ownBlock]; omega)
            have m3 : w3.cell? ⟨w.heap.size, 3, none⟩ = some (.int .i64 a3) := hgrow.cell (by simp [go_sem, k3, z2]) (by simp [Value.ownBlock]; omega)
            clear hgrow hat hlt
            go_wp2_with fail
            go_ret
            exact regs_given HV.out hown2 rfl rfl B3.out
    · obtain ⟨x0, x1⟩ : 0 ≤ a2 ∧ a2 ≤ 31 := by unfold okF mostF at h1; rw [b1] at h1; simpa using h1
      obtain ⟨y0, y1⟩ : 0 ≤ a3 ∧ a3 ≤ 0 := by unfold okF mostF at h2; rw [b2] at h2; simpa using h2
      obtain rfl : a3 = 0 := by omega
      have HV := Lib.hid (show rdR (k : Int) a1 a2 0 a4 a5 = rdL a2 0 by rw [hv.out]; unfold rdA rdB; rw [if_pos ⟨b1, by omega⟩, if_neg (by simp [b2])])
      clear h1 h2 hv b1 b2
      by_cases c : a2 = 0
      · replace HV := Lib.hid (show rdR (k : Int) a1 a2 0 a4 a5 = [] by rw [HV.out]; unfold rdL; rw [if_neg (by omega), if_pos (by omega), if_pos rfl])
        have e0 : decide (0 < a2) = false := by simp; omega
        have e1 : (a2 != 0) = false := by simp; omega
        have e2 : decide (a2 < 0) = false := by simp; omega
        clear x0 x1 y0 y1 c
        rcases hs with rfl | rfl | rfl | rfl | rfl
        all_goals
          go_wp2_with fail
          go_ret
          exact regs_given HV.out hnil rfl rfl B.out
      · replace HV := Lib.hid (show rdR (k : Int) a1 a2 0 a4 a5 = [a2] by rw [HV.out]; unfold rdL; rw [if_pos (by omega), if_pos rfl])
        have e0 : decide (0 < a2) = true := by simp; omega
        have e1 : (a2 != 0) = true := by simp; omega
        have e2 : decide (a2 < 0) = false := by simp; omega
        clear x0 x1 y0 y1 c
        rcases hs with rfl | rfl | rfl | rfl | rfl
        all_goals
          go_wp2_with (first | (at_builtin; refine app_step rfl _ _ rfl w.heap.size _ _ _ rfl (hnil.alloc _) _ a2 rfl (by simp [go_sem]) (by decide) (by simp; omega) ?_) | fail)
          intro g1 cap1 w2 hown1 hgrow hat hlt
          have B2 := Lib.hid ((B.out.alloc (by omega) (.cells #[.int .i64 a2] 3)).grown hgrow (by simp; omega) (by intro k hk; simp [Value.ownBlock] at hk ))
          have z2 : w.heap.size < w2.heap.size := by have := hgrow.size; simp at this; omega
          have k2 : w2.cell? ⟨w.heap.size, 2, none⟩ = some (.int .i64 a2) := hgrow.cell (by simp [go_sem, f2, hzz]) (by simp [Value.ownBlock])
          have k3 : w2.cell? ⟨w.heap.size, 3, none⟩ = some (.int .i64 0) := hgrow.cell (by simp [go_sem, f3, hzz]) (by simp [Value.ownBlock])
          clear hgrow hat hlt
          go_wp2_with fail
          go_ret
          exact regs_given HV.out hown1 rfl rfl B2.out
    · have hv2 : rdR (k : Int) a1 a2 a3 a4 a5 = [] := by
        rw [hv.out]; unfold rdA rdB; rw [if_neg (by intro h; exact h.2 (b1 h.1)), if_neg (by simp [b2])]; rfl
      have HV := Lib.hid hv2
      clear hv2 hv h1 h2
      rcases hs with rfl | rfl | rfl | rfl | rfl
      all_goals
        go_wp2_with fail
        go_ret
        exact regs_given HV.out hnil rfl rfl B.out
  · go_wp2_with fail
    go_ret
    refine regs_given (ys := []) ?_ (World.ownsRow_nil _ _ _ _) rfl rfl B.out
    unfold rdR; rw [if_neg]; simpa using z
end Go.Proofs.YtgjiojcdifjhcaaDoor
