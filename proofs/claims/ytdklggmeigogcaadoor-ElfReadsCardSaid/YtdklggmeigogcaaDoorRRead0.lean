/- hartixref7.Read: the document's. By an AI agent. -/
import Derived.Test.YtdklggmeigogcaaDoorLoad
set_option linter.unusedVariables false
set_option linter.unusedSimpArgs false
namespace Go.Proofs.YtdklggmeigogcaaDoor
open Go.RowKit
theorem below_undrewS {w w9 : World} (h : Below w.drew.heap.size w.drew w9) : Below w.heap.size w w9 := ⟨h.os, h.tape, h.output, h.size, h.block⟩
/-- The variables of the two results, and of the empty program. -/
structure RV (w : World) (r : Nat) : Prop where
  a0 : w.cell? ⟨r, 0, none⟩ = some (.int .u64 0)
  a1 : w.cell? ⟨r, 1, none⟩ = some (.slice none 0 0)
  a2 : w.cell? ⟨r + 1, 0, none⟩ = some (.slice none 0 0)
  a3 : w.cell? ⟨r + 1, 1, none⟩ = some (.int .i64 0)
  a4 : w.cell? ⟨r + 1 + 1, 0, none⟩ = some (.int .u64 0)
  a5 : w.cell? ⟨r + 1 + 1, 1, none⟩ = some (.slice none 0 0)
  f0 : w.frozen? ⟨r, 0, none⟩ = false
  f1 : w.frozen? ⟨r, 1, none⟩ = false
  f2 : w.frozen? ⟨r + 1, 0, none⟩ = false
  f3 : w.frozen? ⟨r + 1, 1, none⟩ = false
  lt : r + 1 + 1 < w.heap.size
theorem RV.after {w w' : World} {r : Nat} (h : RV w r) (hb : Below w.heap.size w w') : RV w' r := by
  obtain ⟨hc, hf⟩ := bcell hb
  have hz := hb.size
  have hl := h.lt
  exact ⟨by rw [hc _ _ (by omega)]; exact h.a0, by rw [hc _ _ (by omega)]; exact h.a1, by rw [hc _ _ (by omega)]; exact h.a2, by rw [hc _ _ (by omega)]; exact h.a3, by rw [hc _ _ (by omega)]; exact h.a4, by rw [hc _ _ (by omega)]; exact h.a5,
    by rw [hf _ _ (by omega)]; exact h.f0, by rw [hf _ _ (by omega)]; exact h.f1, by rw [hf _ _ (by omega)]; exact h.f2, by rw [hf _ _ (by omega)]; exact h.f3, by omega⟩
def RPost (L : List Nat) (w : World) (e : Ending) (w' : World) : Prop :=
  ∃ (A : Option Addr) (n c : Nat) (fv : Value), e = .returned (.tuple #[.agg #[.int .u64 (readE L : Int), .slice A n c], fv]) ∧ FltIs fv (readC L).2 (readC L).1 w' ∧ SegsOwn w' w.heap.size (.slice A n c) (readS L) ∧ Below w.heap.size w w'
theorem readE_bad {L : List Nat} {c p : Int} (h : readC L = (c, p)) (hc : (c != 0) = true) : readE L = 0 ∧ readS L = [] := by
  have : (readC L).1 ≠ 0 := by rw [h]; simpa using hc
  unfold readE readS
  rw [if_neg this, if_neg this]; exact ⟨rfl, rfl⟩
theorem RPost.bad {L : List Nat} {c p : Int} {w w9 : World} {r d dn : Nat} (h : readC L = (c, p)) (hc : (c != 0) = true) (hr : r = w.heap.size) (hd : d < w9.heap.size) (h0 : w9.cell? ⟨d, 0, none⟩ = some (.string elfS)) (h1 : w9.cell? ⟨d, 1, none⟩ = some (.int .i64 p)) (hne : d ≠ r) (hne' : d ≠ r + 1) (hB : Below r w w9) (a b c' d' : Value) :
    RPost L w (.returned (.tuple #[.agg #[.int .u64 0, .slice none 0 0], .agg #[.slice (some ⟨d, 0, none⟩) 1 dn, .int .i64 c]])) ((((w9.setCell ⟨r, 0, none⟩ a).setCell ⟨r, 1, none⟩ b).setCell ⟨r + 1, 0, none⟩ c').setCell ⟨r + 1, 1, none⟩ d') := by
  obtain ⟨e1, e2⟩ := readE_bad h hc
  subst hr
  refine ⟨none, 0, 0, _, by rw [e1]; rfl, ?_, by rw [e2]; exact SegsOwn.nil _ _, (((hB.setCell (Nat.le_refl _) _).setCell (Nat.le_refl _) _).setCell (Nat.le_succ _) _).setCell (Nat.le_succ _) _⟩
  rw [h]
  exact Or.inr ⟨hc, d, dn, rfl, by simpa using hd, by simp [go_sem, hne, hne', h0], by simp [go_sem, hne, hne', h1]⟩
theorem RPost.drew {L : List Nat} {w w' : World} {e : Ending} (h : RPost L w e w') : RPost L w e w'.drew := by
  obtain ⟨A, n, c, fv, e1, e2, e3, e4⟩ := h
  exact ⟨A, n, c, fv, e1, e2, e3, e4.drew⟩
theorem SegsOwn.form {w : World} {B : Nat} {v : Value} {l : List PSeg} (h : SegsOwn w B v l) : ∃ A c, v = .slice A l.length c := by
  obtain ⟨ds, h1, h2, _⟩ := h
  rcases h2.2 with ⟨h3, h4⟩ | ⟨g, cap, cur, h3, _⟩
  · exact ⟨none, 0, by rw [h3, h4]⟩
  · exact ⟨_, cap, h3⟩
theorem grown_set (w : World) (p : Addr) (u : Value) : w.grownBy (w.setCell p u) (some p.block) := ⟨rfl, rfl, rfl, by simp, fun k _ hk => Below.heap_setCell w p u k (fun e => hk (by rw [e]))⟩
theorem readC_head {L : List Nat} {c p : Int} (h : headC L = (c, p)) (hc : (c != 0) = true) : readC L = (c, p) := by
  unfold readC; rw [h, if_pos (by simpa using hc)]
set_option maxRecDepth 100000 in
set_option maxHeartbeats 4000000 in
theorem rread_small (A : Option Addr) (n c : Nat) (L : List Nat) (w : World) (hn : n = L.length) (hm : n ≤ 140737488351232) (hs : 262144 < n ∨ n < 64) :
    Calls Tryd.prog 11 #[.slice A n c] w (RPost L w) := by
  rcases hs with hs | hs
  · have HH := Lib.hid (show readC L = (147, 262144) from readC_head (by unfold headC; rw [if_pos (by omega)]) (by decide))
    clear hn
    have rv0 : RV (((w.alloc (.cells #[.int .u64 0, .slice none 0 0] 27)).alloc (.cells #[.slice none 0 0, .int .i64 0] 34)).alloc (.cells #[.int .u64 0, .slice none 0 0] 27)) w.heap.size := by
      constructor <;> simp [go_sem]
    have HBW := Lib.hid ((((Below.refl w.heap.size w).alloc (Nat.le_refl _) (.cells #[.int .u64 0, .slice none 0 0] 27)).alloc (by simp) (.cells #[.slice none 0 0, .int .i64 0] 34)).alloc (by simp; omega) (.cells #[.int .u64 0, .slice none 0 0] 27))
    have RVW := Lib.hid rv0
    clear rv0
    go_enter Tryd.func11, Tryd.ntmps11
    go_wp2_with fail
    generalize (((w.alloc (.cells #[.int .u64 0, .slice none 0 0] 27)).alloc (.cells #[.slice none 0 0, .int .i64 0] 34)).alloc (.cells #[.int .u64 0, .slice none 0 0] 27)) = W at *
    generalize hr : w.heap.size = r at *
    have HBK := Lib.hid (Below.refl W.heap.size W)
    have hrW : r ≤ W.heap.size := by have := HBW.out.size; omega
    go_wp2_with fail
    obtain ⟨y0, y1, y2, y3, y4, y5, y6, y7, y8, y9, y10⟩ := RVW.out.after HBK.out
    go_region_with ((go_at_call 33; refine (no_ex 262144 147 _).mono ?_; rintro e w9 ⟨d, dn, rfl, hd1, hd2, hd3, hd4, hb9⟩; have hb9' := below_undrewS hb9; obtain ⟨z0, z1, z2, z3, z4, z5, z6, z7, z8, z9, z10⟩ := RVW.out.after (chain3 HBK.out hb9')))
    all_goals
      go_wp2_with fail
      have hdk : r + 1 + 1 < d := Nat.lt_of_lt_of_le y10 hd1
      exact bodyPost_ret (v := .tuple #[.agg #[.int .u64 0, .slice none 0 0], .agg #[.slice (some ⟨d, 0, none⟩) 1 dn, .int .i64 147]]) (by simp [results, Tryd.results11, go_sem, z0, z1, z2, z3, z4, z5, z6, z7, z8, z9, z10]) rfl (RPost.bad HH.out (by decide) hr.symm hd2 hd3 hd4 (by omega) (by omega) (HBW.out.trans ((chain3 HBK.out hb9').mono hrW)) _ _ _ _)
  · have HH := Lib.hid (show readC L = (140, (n : Int)) from readC_head (by unfold headC; rw [if_neg (by omega), if_pos (by omega), hn]) (by decide))
    clear hn
    have rv0 : RV (((w.alloc (.cells #[.int .u64 0, .slice none 0 0] 27)).alloc (.cells #[.slice none 0 0, .int .i64 0] 34)).alloc (.cells #[.int .u64 0, .slice none 0 0] 27)) w.heap.size := by
      constructor <;> simp [go_sem]
    have HBW := Lib.hid ((((Below.refl w.heap.size w).alloc (Nat.le_refl _) (.cells #[.int .u64 0, .slice none 0 0] 27)).alloc (by simp) (.cells #[.slice none 0 0, .int .i64 0] 34)).alloc (by simp; omega) (.cells #[.int .u64 0, .slice none 0 0] 27))
    have RVW := Lib.hid rv0
    clear rv0
    go_enter Tryd.func11, Tryd.ntmps11
    go_wp2_with fail
    generalize (((w.alloc (.cells #[.int .u64 0, .slice none 0 0] 27)).alloc (.cells #[.slice none 0 0, .int .i64 0] 34)).alloc (.cells #[.int .u64 0, .slice none 0 0] 27)) = W at *
    generalize hr : w.heap.size = r at *
    have HBK := Lib.hid (Below.refl W.heap.size W)
    have hrW : r ≤ W.heap.size := by have := HBW.out.size; omega
    go_wp2_with fail
    obtain ⟨y0, y1, y2, y3, y4, y5, y6, y7, y8, y9, y10⟩ := RVW.out.after HBK.out
    go_region_with ((go_at_call 33; refine (no_ex n 140 _).mono ?_; rintro e w9 ⟨d, dn, rfl, hd1, hd2, hd3, hd4, hb9⟩; have hb9' := below_undrewS hb9; obtain ⟨z0, z1, z2, z3, z4, z5, z6, z7, z8, z9, z10⟩ := RVW.out.after (chain3 HBK.out hb9')))
    all_goals
      go_wp2_with fail
      have hdk : r + 1 + 1 < d := Nat.lt_of_lt_of_le y10 hd1
      exact bodyPost_ret (v := .tuple #[.agg #[.int .u64 0, .slice none 0 0], .agg #[.slice (some ⟨d, 0, none⟩) 1 dn, .int .i64 140]]) (by simp [results, Tryd.results11, go_sem, z0, z1, z2, z3, z4, z5, z6, z7, z8, z9, z10]) rfl (RPost.bad HH.out (by decide) hr.symm hd2 hd3 hd4 (by omega) (by omega) (HBW.out.trans ((chain3 HBK.out hb9').mono hrW)) _ _ _ _)
end Go.Proofs.YtdklggmeigogcaaDoor
