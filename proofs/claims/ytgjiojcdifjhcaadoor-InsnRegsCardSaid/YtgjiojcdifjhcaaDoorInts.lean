/- hartixlaw1.ints of two rows that hold the same numbers; a number appended to a row of the call's own, the old row kept. By an AI agent. -/
import Derived.Test.YtgjiojcdifjhcaaDoorReads
import Derived.ArgAppend
import Derived.Laws.OwnMore
import Derived.Deep.Onto
set_option linter.unusedVariables false
set_option linter.unusedSimpArgs false
namespace Go.Proofs.YtgjiojcdifjhcaaDoor
open Go.RowKit
theorem ints_some (g h n c d : Nat) (X : Nat → Int) (w : World) (hn : n ≤ 1000) (h1 : ∀ i, i < n → w.cell? ⟨g, i, none⟩ = some (.int .i64 (X i))) (h2 : ∀ i, i < n → w.cell? ⟨h, i, none⟩ = some (.int .i64 (X i))) :
    Calls Tryd.prog 49 #[.slice (some ⟨g, 0, none⟩) n c, .slice (some ⟨h, 0, none⟩) n d] w fun e w' => e = .returned (.bool true) ∧ Below w.heap.size w w' := by
  go_enter Tryd.func49, Tryd.ntmps49
  go_wp2_with fail
  go_loopw [5] (fun i wr => ∃ k : Nat, k ≤ n ∧ i = .int .i64 k ∧ Below w.heap.size w wr) (fun i _ => 1001 - (intOf i).toNat)
  case atStart => exact ⟨0, by omega, rfl, Below.refl _ _⟩
  case round =>
    obtain ⟨k, hk, rfl, hb⟩ := hrel
    have HB := Lib.hid hb
    have hcc := (bcell hb).1
    clear hb
    by_cases hlt : k < n
    · have p1 := h1 k hlt
      have p2 := h2 k hlt
      have q1 : wr.cell? ⟨g, k, none⟩ = some (.int .i64 (X k)) := by rw [hcc _ _ (World.block_lt_of_cell? _ _ p1)]; exact p1
      have q2 : wr.cell? ⟨h, k, none⟩ = some (.int .i64 (X k)) := by rw [hcc _ _ (World.block_lt_of_cell? _ _ p2)]; exact p2
      clear p1 p2 h1 h2 hcc
      have z1 := World.block_lt_of_cell? _ _ q1
      have z2 := World.block_lt_of_cell? _ _ q2
      go_wp2
      repeat (go_quiet (fail); try go_wp2)
      go_roundw
      case rel => exact ⟨k + 1, by omega, by go_num, below_drewN HB.out _⟩
      case measure => simp [intOf]; omega
    · have h3 : k = n := by omega
      go_wp2_with fail
      go_ret
      exact ⟨rfl, HB.out⟩
theorem ints_nil (a b : Option Addr) (c d : Nat) (w : World) : Calls Tryd.prog 49 #[.slice a 0 c, .slice b 0 d] w fun e w' => e = .returned (.bool true) ∧ Below w.heap.size w w' := by
  go_enter Tryd.func49, Tryd.ntmps49
  go_wp2_with fail
  refine wp_loop_rounds 1 ?_
  rw [rounds_succ]
  go_wp2_with fail
  go_ret
  exact ⟨rfl, Below.refl _ _⟩
/-- Two rows of the same numbers. -/
theorem ints_same {B B' n : Nat} {u v : Value} {xs : List Int} {w : World} (hu : w.ownsRow B 3 1 u xs.length (xs.map (Value.int .i64))) (hv : w.ownsRow B' 3 1 v xs.length (xs.map (Value.int .i64))) (hx : xs.length ≤ 1000) :
    Calls Tryd.prog 49 #[u, v] w fun e w' => e = .returned (.bool true) ∧ Below w.heap.size w w' := by
  rcases Nat.eq_zero_or_pos xs.length with h0 | h0
  · have form : ∀ {B : Nat} {u : Value}, w.ownsRow B 3 1 u xs.length (xs.map (Value.int .i64)) → ∃ a c, u = .slice a 0 c := by
      intro B u h
      rcases h.2 with ⟨h1, _⟩ | ⟨g, cap, cur, h1, _⟩
      · exact ⟨none, 0, h1⟩
      · exact ⟨_, cap, by rw [h1, h0]⟩
    obtain ⟨a, c, rfl⟩ := form hu
    obtain ⟨b, d, rfl⟩ := form hv
    exact ints_nil a b c d w
  · obtain ⟨g, c, rfl, _, _⟩ := hu.form h0
    obtain ⟨h, d, rfl, _, _⟩ := hv.form h0
    refine ints_some g h xs.length c d (fun i => xs.getD i 0) w hx ?_ ?_
    · intro i hi
      rw [hu.cellAt i (by omega)]; simp [hi]
    · intro i hi
      rw [hv.cellAt i (by omega)]; simp [hi]
theorem grown_any {w w' : World} {row : Option Nat} (h : w.grownBy w' none) : w.grownBy w' row := ⟨h.os, h.tape, h.output, h.size, fun k hk _ => h.block k hk (by simp)⟩
theorem row_put {w : World} {g n cap : Nat} {xs : List Value} {cur : Array Value} (hl : xs.length = n) (hg : w.heap[g]? = some (.cells cur 3 (0, 0))) (hc : n + 1 ≤ cap) (hm : cap ≤ maxLen) (hz : cur.size = cap) (ht : cur.toList.take n = xs) (u : Value) :
    (w.setCell ⟨g, n, none⟩ u).ownsRow 0 3 1 (.slice (some ⟨g, 0, none⟩) (n + 1) cap) (n + 1) (xs ++ [u]) := by
  refine ⟨by simp [hl], .inr ⟨g, cap, cur.setIfInBounds n u, rfl, Nat.zero_le _, heap_setCell_same w g n cur 3 u hg, hc, hm, by simpa using hz, ?_⟩⟩
  rw [Array.toList_setIfInBounds, Nat.mul_one, ← ht]
  apply List.ext_getElem?
  intro j
  rcases Nat.lt_trichotomy j n with h | h | h
  · rw [List.getElem?_take, if_pos (by omega), List.getElem?_set_ne (by omega), List.getElem?_append_left (by simp; omega), List.getElem?_take, if_pos h]
  · subst h
    rw [List.getElem?_take, if_pos (by omega), List.getElem?_set_self (by simp; omega), List.getElem?_append_right (by simp; omega)]
    simp [show min j cur.size = j by omega]
  · rw [List.getElem?_eq_none (by simp; omega), List.getElem?_eq_none (by simp; omega)]
/-- One number appended; but for the new row every block is as it was. -/
theorem app_keep {ops : Array Oper} {rest : List Oper} {o : Oper} {a : Act} {Q : Exit → Act → World → Prop} {w : World} (hgd : o.guard = none) (s x : Operand)
    (ho : o.op = .call { callee := .builtin .append, args := #[s, x], argTypes := #[97, 97] }) (v : Value) (n : Nat) (xs : List Value) (hs : a.eval s = v) (hown : w.ownsRow 0 3 1 v n xs)
    (g0 : Nat) (y : Int) (hx : a.eval x = .slice (some ⟨g0, 0, none⟩) 1 1) (hc : w.cell? ⟨g0, 0, none⟩ = some (.int .i64 y)) (hn : n ≤ 1000000)
    (h : ∀ g cap w', w'.ownsRow 0 3 1 (.slice (some ⟨g, 0, none⟩) (n + 1) cap) (n + 1) (xs ++ [.int .i64 y]) → w.grownBy w' (some g) → (v.ownBlock = some g ∨ w.heap.size ≤ g) → g < w'.heap.size → wpList Tryd.prog ops Q rest (a.put o.dst (.slice (some ⟨g, 0, none⟩) (n + 1) cap)) w') :
    wpList Tryd.prog ops Q (o :: rest) a w := by
  obtain ⟨i, hi, hz, h1, h8⟩ := i3
  rcases hown.2 with ⟨rfl, rfl⟩ | ⟨g, cap, cur, rfl, _, hg, hnc, hcm, hcs, ht⟩
  · refine app_step hgd s x ho 0 _ 0 xs hs hown g0 y hx hc hn (Nat.zero_le _) ?_
    intro g cap w' e1 e2 e3 e4
    exact h g cap w' e1 (grown_any e2) (e3.imp id (fun e => by omega)) e4
  · have hl : xs.length = n := by simpa using hown.1
    have hgl : g < w.heap.size := (hown.lt g rfl).2
    refine wpList_append_arg w hgd s x 97 ho 3 i (.int .i64 0) 1 8 Tryd.underlying97 hi hz h1 h8 rfl (by decide) g 0 n cap xs hs (by simpa using hl) ?_ ⟨g0, 0, none⟩ 1 1 [.int .i64 y] hx rfl ?_ ?_ ?_ ?_ ?_ ?_ ?_
    · intro j u hj
      have hjl : j < n := by have := (List.getElem?_eq_some_iff.1 hj).1; omega
      rw [Nat.zero_add, hown.cellAt j (by omega)]; exact hj
    · intro j u hu
      match j, hu with
      | 0, hu => simp at hu; subst hu; simpa [Addr.add] using hc
    · intro u hu; simp at hu; subst hu; rfl
    · intro hr j hj
      have hj0 : j = 0 := by simpa using hj
      subst hj0
      refine ⟨?_, ?_⟩
      · rw [cell_of_row w g _ cur 3 (0, 0) hg]; simp; omega
      · exact frozen_of_row w g _ cur 3 hg
    · unfold maxLen; omega
    · omega
    · intro hr
      have e : w.setCells g (0 + n * 1) [.int .i64 y] = w.setCell ⟨g, n, none⟩ (.int .i64 y) := by simp [World.setCells]
      rw [e]
      refine h g cap _ (row_put hl hg hr hcm (by simpa using hcs) (by simpa using ht) _) ⟨rfl, rfl, rfl, by simp, fun k _ hk => heap_setCell_other w ⟨g, n, none⟩ k _ (fun e => hk (by simp [e]))⟩ (.inl rfl) (by simp; exact hgl)
    · intro hr v' w' e1 e2
      obtain ⟨g', cap', rfl, hb, hlt⟩ := e1.form (by omega)
      exact h g' cap' w' (e1.mono (Nat.zero_le _)) (grown_any e2) (.inr hb) hlt
end Go.Proofs.YtgjiojcdifjhcaaDoor
