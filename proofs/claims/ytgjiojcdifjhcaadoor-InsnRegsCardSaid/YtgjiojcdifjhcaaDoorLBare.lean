/- The law InsnBare: unlike instructions are unlike words. By an AI agent; printed by wip/gen_bare.py. -/
import Derived.Test.YtgjiojcdifjhcaaDoorUnique
import Derived.Test.YtgjiojcdifjhcaaDoorLEncodes
set_option linter.unusedVariables false
set_option linter.unusedSimpArgs false
namespace Go.Proofs.YtgjiojcdifjhcaaDoor
open Go.RowKit
/-- What is laid down, where nothing bars it. -/
theorem encR_ok {op rd r1 r2 v csr : Int} (h : (encR op rd r1 r2 v csr).2.2 = 0) : ∃ k : Nat, op = k ∧ 1 ≤ k ∧ k < 77 ∧ okF (shN k) 0 rd ∧ okF (shN k) 1 r1 ∧ okF (shN k) 2 r2 ∧ okF (shN k) 3 csr ∧ immOk (shN k) v ∧ (encR op rd r1 r2 v csr).1 = accF (wordOf k) rd r1 r2 csr 4 + immI (shN k) v := by
  rw [encR_barR] at h
  obtain ⟨a1, a2⟩ := barR_zero h
  obtain ⟨k, rfl⟩ : ∃ k : Nat, op = (k : Int) := ⟨op.toNat, by omega⟩
  have hb : barR k rd r1 r2 v csr = barF (shN k) rd r1 r2 v csr := by unfold barR; rw [if_pos ⟨a1, a2⟩]; rfl
  obtain ⟨h0, h1, h2, h3, hi⟩ := barF_zero (by rw [← hb]; exact h)
  exact ⟨k, rfl, by omega, by omega, h0, h1, h2, h3, hi, by rw [encR_bar, if_pos h]; rfl⟩
theorem enc_inj {a0 a1 a2 a3 a4 a5 b0 b1 b2 b3 b4 b5 : Int} (ha : (encR a0 a1 a2 a3 a4 a5).2.2 = 0) (hb : (encR b0 b1 b2 b3 b4 b5).2.2 = 0) (h : (encR a0 a1 a2 a3 a4 a5).1 = (encR b0 b1 b2 b3 b4 b5).1) : a0 = b0 ∧ a1 = b1 ∧ a2 = b2 ∧ a3 = b3 ∧ a4 = b4 ∧ a5 = b5 := by
  obtain ⟨p, rfl, p1, p2, c0, c1, c2, c3, c4, hp⟩ := encR_ok ha
  obtain ⟨q, rfl, q1, q2, d0, d1, d2, d3, d4, hq⟩ := encR_ok hb
  obtain ⟨r0, r1⟩ := (acc_imm p p1 p2 a1 a2 a3 a5 a4 c0 c1 c2 c3).2
  have ep := enc_word p p1 p2 a1 a2 a3 a5 a4 _ c0 c1 c2 c3 c4 rfl
  have eq := enc_word q q1 q2 b1 b2 b3 b5 b4 _ d0 d1 d2 d3 d4 rfl
  have hw : accF (wordOf p) a1 a2 a3 a5 4 + immI (shN p) a4 = accF (wordOf q) b1 b2 b3 b5 4 + immI (shN q) b4 := hp.symm.trans (h.trans hq)
  rw [← hw] at eq
  have : p = q := one_op p q p1 p2 q1 q2 _ r0 r1 ep.1 eq.1
  subst this
  exact ⟨rfl, ep.2.1.symm.trans eq.2.1, ep.2.2.1.symm.trans eq.2.2.1, ep.2.2.2.1.symm.trans eq.2.2.2.1, ep.2.2.2.2.2.symm.trans eq.2.2.2.2.2, ep.2.2.2.2.1.symm.trans eq.2.2.2.2.1⟩
set_option maxRecDepth 100000 in
set_option maxHeartbeats 4000000 in
theorem law_bare (a0 a1 a2 a3 a4 a5 b0 b1 b2 b3 b4 b5 : Int) (w : World) (ht : TabsW w) :
    Calls Tryd.prog 7 #[.agg #[.int .i64 a0, .int .i64 a1, .int .i64 a2, .int .i64 a3, .int .i64 a4, .int .i64 a5], .agg #[.int .i64 b0, .int .i64 b1, .int .i64 b2, .int .i64 b3, .int .i64 b4, .int .i64 b5]] w (TruePost w) := by
  have B0 := Lib.hid (((Below.refl w.heap.size w).alloc (Nat.le_refl _) (.cells #[.int .i64 a0, .int .i64 a1, .int .i64 a2, .int .i64 a3, .int .i64 a4, .int .i64 a5] 46)).alloc (by simp) (.cells #[.int .i64 b0, .int .i64 b1, .int .i64 b2, .int .i64 b3, .int .i64 b4, .int .i64 b5] 46))
  have HT := Lib.hid (ht.after B0.out)
  clear ht
  go_enter Tryd.func7, Tryd.ntmps7
  go_wp2_with fail
  refine (encode_any a0 a1 a2 a3 a4 a5 _ HT.out).mono ?_
  rintro e w1 ⟨er, rfl, her, hb1⟩
  have HT1 := Lib.hid (HT.out.after hb1)
  have HE := Lib.hid her
  obtain ⟨hc1, _⟩ := bcell hb1
  have hz1 := hb1.size
  have B1 := Lib.hid (B0.out.trans (hb1.mono B0.out.size))
  simp only [World.size_alloc] at hc1 hz1
  have q1 : w.heap.size < w1.heap.size := by omega
  have q2 : w.heap.size + 1 < w1.heap.size := by omega
  clear her hb1
  go_wp2_with fail
  refine (encode_any b0 b1 b2 b3 b4 b5 _ HT1.out).mono ?_
  rintro e w2 ⟨er2, rfl, her2, hb2⟩
  obtain ⟨hc2, _⟩ := bcell hb2
  have HE1 := Lib.hid (HE.out.after hb2)
  have HE2 := Lib.hid her2
  have B2 := Lib.hid (B1.out.trans (hb2.mono B1.out.size))
  clear her2 hb2 HE
  rcases HE1.out with ⟨z1, rfl⟩ | ⟨z1, g, rfl, _⟩
  · rcases HE2.out with ⟨z2, rfl⟩ | ⟨z2, g, rfl, _⟩
    · have HI := Lib.hid (enc_inj z1 z2)
      have Z := Lib.hid (And.intro z1 z2)
      clear z1 z2 HE1 HE2
      by_cases e0 : a0 = b0
      case neg =>
        have W : ((encR a0 a1 a2 a3 a4 a5).1 == (encR b0 b1 b2 b3 b4 b5).1) = false := by
          have := HI.out
          simp only [beq_eq_false_iff_ne, ne_eq]
          intro h
          exact e0 (this h).1
        clear HI Z
        generalize (encR a0 a1 a2 a3 a4 a5).1 = wa at *
        generalize (encR b0 b1 b2 b3 b4 b5).1 = wb at *
        go_wp2_with fail
        go_ret
        exact ⟨ret_bool (by simp [W, e0]), B2.out⟩
      subst e0
      by_cases e1 : a1 = b1
      case neg =>
        have W : ((encR a0 a1 a2 a3 a4 a5).1 == (encR a0 b1 b2 b3 b4 b5).1) = false := by
          have := HI.out
          simp only [beq_eq_false_iff_ne, ne_eq]
          intro h
          exact e1 (this h).2.1
        clear HI Z
        generalize (encR a0 a1 a2 a3 a4 a5).1 = wa at *
        generalize (encR a0 b1 b2 b3 b4 b5).1 = wb at *
        go_wp2_with fail
        go_ret
        exact ⟨ret_bool (by simp [W, e1]), B2.out⟩
      subst e1
      by_cases e2 : a2 = b2
      case neg =>
        have W : ((encR a0 a1 a2 a3 a4 a5).1 == (encR a0 a1 b2 b3 b4 b5).1) = false := by
          have := HI.out
          simp only [beq_eq_false_iff_ne, ne_eq]
          intro h
          exact e2 (this h).2.2.1
        clear HI Z
        generalize (encR a0 a1 a2 a3 a4 a5).1 = wa at *
        generalize (encR a0 a1 b2 b3 b4 b5).1 = wb at *
        go_wp2_with fail
        go_ret
        exact ⟨ret_bool (by simp [W, e2]), B2.out⟩
      subst e2
      by_cases e3 : a3 = b3
      case neg =>
        have W : ((encR a0 a1 a2 a3 a4 a5).1 == (encR a0 a1 a2 b3 b4 b5).1) = false := by
          have := HI.out
          simp only [beq_eq_false_iff_ne, ne_eq]
          intro h
          exact e3 (this h).2.2.2.1
        clear HI Z
        generalize (encR a0 a1 a2 a3 a4 a5).1 = wa at *
        generalize (encR a0 a1 a2 b3 b4 b5).1 = wb at *
        go_wp2_with fail
        go_ret
        exact ⟨ret_bool (by simp [W, e3]), B2.out⟩
      subst e3
      by_cases e4 : a4 = b4
      case neg =>
        have W : ((encR a0 a1 a2 a3 a4 a5).1 == (encR a0 a1 a2 a3 b4 b5).1) = false := by
          have := HI.out
          simp only [beq_eq_false_iff_ne, ne_eq]
          intro h
          exact e4 (this h).2.2.2.2.1
        clear HI Z
        generalize (encR a0 a1 a2 a3 a4 a5).1 = wa at *
        generalize (encR a0 a1 a2 a3 b4 b5).1 = wb at *
        go_wp2_with fail
        go_ret
        exact ⟨ret_bool (by simp [W, e4]), B2.out⟩
      subst e4
      by_cases e5 : a5 = b5
      case neg =>
        have W : ((encR a0 a1 a2 a3 a4 a5).1 == (encR a0 a1 a2 a3 a4 b5).1) = false := by
          have := HI.out
          simp only [beq_eq_false_iff_ne, ne_eq]
          intro h
          exact e5 (this h).2.2.2.2.2
        clear HI Z
        generalize (encR a0 a1 a2 a3 a4 a5).1 = wa at *
        generalize (encR a0 a1 a2 a3 a4 b5).1 = wb at *
        go_wp2_with fail
        go_ret
        exact ⟨ret_bool (by simp [W, e5]), B2.out⟩
      subst e5
      clear HI Z
      generalize (encR a0 a1 a2 a3 a4 a5).1 = wa at *
      go_wp2_with fail
      go_ret
      exact ⟨rfl, B2.out⟩
    · go_wp2_with fail
      go_ret
      exact ⟨rfl, B2.out⟩
  · go_wp2_with fail
    go_ret
    exact ⟨rfl, B2.out⟩
end Go.Proofs.YtgjiojcdifjhcaaDoor
