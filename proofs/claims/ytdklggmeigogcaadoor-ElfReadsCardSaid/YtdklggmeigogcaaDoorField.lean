/- elf's fields: their bytes, their numbers, written. By an AI agent. -/
import Derived.Test.YtdklggmeigogcaaDoorMath
set_option linter.unusedVariables false
set_option linter.unusedSimpArgs false
namespace Go.Proofs.YtdklggmeigogcaaDoor
open Go.RowKit
theorem in_any (g o n c at' k : Nat) (m : Int) (w : World) (h : at' + k ≤ c) (hk : 0 < k) (hc : c ≤ 9223372036854775807) :
    Calls Tryd.prog 50 #[.agg #[.int .i64 (at' : Int), .int .i64 (k : Int), .int .u64 m], .slice (some ⟨g, o, none⟩) n c] w fun e w' => e = .returned (.slice (some ⟨g, o + at', none⟩) k k) ∧ Below w.heap.size w w' := by
  have e1 : ¬ c = at' := by omega
  go_enter Tryd.func50, Tryd.ntmps50
  go_wp2_with fail
  go_ret
  refine ⟨by simp [Nat.add_sub_cancel_left], (by repeat' (first | exact Below.refl _ _ | refine Below.alloc ?_ ?_ _ | exact Nat.le_refl _ | (simp; done)))⟩
theorem get_any (g o n c at' k : Nat) (m : Int) (X : Nat → Nat) (w : World) (h : at' + k ≤ c) (hk : 0 < k) (hc : c ≤ 9223372036854775807) (h8 : k ≤ 8) (hX : ∀ i, X i < 256) (hcell : ∀ i, i < k → w.cell? ⟨g, o + at' + i, none⟩ = some (.int .u8 (X i : Int))) :
    Calls Tryd.prog 29 #[.agg #[.int .i64 (at' : Int), .int .i64 (k : Int), .int .u64 m], .slice (some ⟨g, o, none⟩) n c] w fun e w' => e = .returned (.int .u64 ((vsum X k : Nat) : Int)) ∧ Below w.heap.size w w' := by
  have HX := Lib.hid hX
  have HC := Lib.hid hcell
  clear hX hcell
  go_enter Tryd.func29, Tryd.ntmps29
  go_wp2_with fail
  refine (in_any g o n c at' k m _ h hk hc).mono ?_
  rintro e w1 ⟨rfl, hb⟩
  have HB := Lib.hid (((Below.refl w.heap.size w).alloc (Nat.le_refl _) (.cells #[.int .i64 (at' : Int), .int .i64 (k : Int), .int .u64 m] 65)).trans (hb.mono (by simp)))
  clear hb
  go_wp2_with fail
  go_loopw [5, 12] (fun v i wr => ∃ j : Nat, j ≤ k ∧ i = .int .i64 j ∧ v = .int .u64 ((vsum X j : Nat) : Int) ∧ Below w.heap.size w wr) (fun _ i _ => 9 - (intOf i).toNat)
  case atStart => exact ⟨0, by omega, rfl, rfl, HB.out⟩
  case round =>
    obtain ⟨j, hj, rfl, rfl, hb⟩ := hrel
    clear HB
    have HB := Lib.hid hb
    clear hb
    by_cases hlt : j < k
    · have p1 : wr.cell? ⟨g, o + at' + j, none⟩ = some (.int .u8 (X j : Int)) := by
        have h := HC.out j hlt
        rw [(bcell HB.out).1 _ _ (World.block_lt_of_cell? _ _ h)]; exact h
      have z1 := World.block_lt_of_cell? _ _ p1
      have HO := Lib.hid (or_step (vsum X j) (X j) j (by omega) (vsum_lt X HX.out j) (HX.out j))
      go_wp2
      repeat (go_quiet (fail); try go_wp2)
      go_roundw
      case rel => exact ⟨j + 1, by omega, by go_num, by rw [HO.out]; rfl, HB.out⟩
      case measure => simp [intOf]; omega
    · have h3 : j = k := by omega
      go_wp2_with fail
      go_ret
      subst h3
      exact ⟨rfl, HB.out⟩
theorem grown_of_below {w w' : World} (hb : Below w.heap.size w w') (row : Option Nat) : w.grownBy w' row := ⟨hb.os, hb.tape, hb.output, hb.size, fun k hk _ => hb.block k hk⟩
theorem grown_trans {w w1 w2 : World} {row : Option Nat} (h : w.grownBy w1 row) (k : w1.grownBy w2 row) : w.grownBy w2 row :=
  ⟨k.os.trans h.os, k.tape.trans h.tape, k.output.trans h.output, Nat.le_trans h.size k.size, fun i hi hn => (k.block i (Nat.lt_of_lt_of_le hi h.size) hn).trans (h.block i hi hn)⟩
theorem grown_drewN {w w' : World} {row : Option Nat} (h : w.grownBy w' row) (n : Nat) : w.grownBy (w'.drewN n) row :=
  ⟨h.os, h.tape, h.output, h.size, h.block⟩
/-- A number's low bytes laid into a list from a place on. -/
def putL (L : List Nat) (a v : Nat) : Nat → List Nat
  | 0 => L
  | j + 1 => (putL L a v j).set (a + j) (nb v j)
theorem putL_length (L : List Nat) (a v : Nat) : ∀ j, (putL L a v j).length = L.length
  | 0 => rfl
  | j + 1 => by simp [putL, putL_length L a v j]
theorem putL_app (A : List Nat) (v : Nat) (C : List Nat) : ∀ (j : Nat) (Z : List Nat), j ≤ Z.length → putL (A ++ (Z ++ C)) A.length v j = A ++ (num v j ++ (Z.drop j ++ C))
  | 0, Z, _ => by simp [putL, num]
  | j + 1, Z, h => by
    rw [putL, putL_app A v C j Z (by omega), List.set_append_right _ _ (by omega)]
    congr 1
    rw [List.set_append_right _ _ (by simp [num])]
    have e : A.length + j - A.length - (num v j).length = 0 := by simp [num]
    rw [e, List.drop_eq_getElem_cons (by omega : j < Z.length), List.cons_append, List.set_cons_zero]
    simp [num, List.range_succ]
theorem putL_at (A Z C : List Nat) (a v k : Nat) (ha : A.length = a) (hz : Z.length = k) : putL (A ++ (Z ++ C)) a v k = A ++ (num v k ++ C) := by
  subst ha hz
  rw [putL_app A v C Z.length Z (Nat.le_refl _)]; simp
def PutPost (B g cap N : Nat) (L : List Nat) (a v k : Nat) (w : World) (e : Ending) (w' : World) : Prop :=
  e = .returned (.tuple #[]) ∧ w'.ownsRow B 5 1 (.slice (some ⟨g, 0, none⟩) N cap) N ((putL L a v k).map byteV) ∧ w.grownBy w' (some g)
set_option maxHeartbeats 400000 in
theorem put_any (g o n c at' k : Nat) (m : Int) (v B N cap : Nat) (L : List Nat) (w : World) (h : at' + k ≤ c) (hk : 0 < k) (hc : c ≤ 9223372036854775807) (h8 : k ≤ 8) (hv : v < 18446744073709551616) (hN : o + at' + k ≤ N) (ho : w.ownsRow B 5 1 (.slice (some ⟨g, 0, none⟩) N cap) N (L.map byteV)) :
    Calls Tryd.prog 44 #[.agg #[.int .i64 (at' : Int), .int .i64 (k : Int), .int .u64 m], .slice (some ⟨g, o, none⟩) n c, .int .u64 (v : Int)] w (PutPost B g cap N L (o + at') v k w) := by
  have hlt := (ho.lt g rfl).2
  have HO := Lib.hid ho
  clear ho
  go_enter Tryd.func44, Tryd.ntmps44
  go_wp2_with fail
  refine (in_any g o n c at' k m _ h hk hc).mono ?_
  rintro e w1 ⟨rfl, hb⟩
  have hb0 := ((Below.refl w.heap.size w).alloc (Nat.le_refl _) (.cells #[.int .i64 (at' : Int), .int .i64 (k : Int), .int .u64 m] 65)).trans (hb.mono (by simp))
  have HG := Lib.hid (grown_of_below hb0 (some g))
  have HO1 := Lib.hid (HO.out.kept (grown_of_below hb0 none) (.inr (by simp [Value.ownBlock])))
  obtain ⟨hc1, hf1⟩ := bcell hb
  have hz := hb.size
  simp only [World.size_alloc] at hc1 hf1 hz
  have f0 : w1.cell? ⟨w.heap.size, 0, none⟩ = some (.int .i64 at') := by rw [hc1 _ _ (by omega)]; simp [go_sem]
  have f1 : w1.cell? ⟨w.heap.size, 1, none⟩ = some (.int .i64 k) := by rw [hc1 _ _ (by omega)]; simp [go_sem]
  have f2 : w1.cell? ⟨w.heap.size, 2, none⟩ = some (.int .u64 m) := by rw [hc1 _ _ (by omega)]; simp [go_sem]
  have HF := Lib.hid (And.intro f0 (And.intro f1 f2))
  clear hb hb0 hc1 hf1 f0 f1 f2 HO
  go_wp2_with fail
  go_loopw [11] (fun i wr => ∃ (j : Nat), j ≤ k ∧ i = .int .i64 j ∧ w.heap.size < wr.heap.size ∧ wr.cell? ⟨w.heap.size, 0, none⟩ = some (.int .i64 at') ∧ wr.cell? ⟨w.heap.size, 1, none⟩ = some (.int .i64 k) ∧ wr.cell? ⟨w.heap.size, 2, none⟩ = some (.int .u64 m) ∧ wr.ownsRow B 5 1 (.slice (some ⟨g, 0, none⟩) N cap) N ((putL L (o + at') v j).map byteV) ∧ w.grownBy wr (some g)) (fun i _ => 9 - (intOf i).toNat)
  case atStart => exact ⟨0, by omega, rfl, by omega, HF.out.1, HF.out.2.1, HF.out.2.2, HO1.out, HG.out⟩
  case round =>
    obtain ⟨j, hj, rfl, f0, f1, f2, f3, ho, hg⟩ := hrel
    clear HF HO1 HG
    have HO := Lib.hid ho
    have HG := Lib.hid hg
    clear ho hg
    by_cases hlt : j < k
    · go_wp2_with fail
      refine (in_any g o n c at' k m _ h hk hc).mono ?_
      rintro e w2 ⟨rfl, hb⟩
      have HG2 := Lib.hid (grown_trans HG.out (grown_of_below hb _))
      have HO2 := Lib.hid (HO.out.kept (grown_of_below hb none) (.inr (by simp [Value.ownBlock])))
      obtain ⟨hc1, hf1⟩ := bcell hb
      have hz := hb.size
      have g0 : w2.cell? ⟨w.heap.size, 0, none⟩ = some (.int .i64 at') := by rw [hc1 _ _ (by omega)]; exact f1
      have g1 : w2.cell? ⟨w.heap.size, 1, none⟩ = some (.int .i64 k) := by rw [hc1 _ _ (by omega)]; exact f2
      have g2 : w2.cell? ⟨w.heap.size, 2, none⟩ = some (.int .u64 m) := by rw [hc1 _ _ (by omega)]; exact f3
      have p1 : w2.cell? ⟨g, o + at' + j, none⟩ = some (byteV ((putL L (o + at') v j).getD (o + at' + j) 0)) := by
        rw [HO2.out.cellAt _ (by omega)]
        have hl : (putL L (o + at') v j).length = N := by have := HO2.out.1; simpa using this
        simp [List.getElem?_map, List.getElem?_eq_getElem (by omega : o + at' + j < (putL L (o + at') v j).length)]
      have pf : w2.frozen? ⟨g, o + at' + j, none⟩ = false := HO2.out.frozenAt _
      have z1 := World.block_lt_of_cell? _ _ p1
      clear hb HG HO hc1 hf1
      go_wp2_with fail
      go_roundw
      obtain ⟨s1, s2⟩ := HO2.out.stored (o + at' + j) (byteV (nb v j))
      have hval : Value.int .u8 ((v : Int) / 2 ^ (8 * j) % 256) = byteV (nb v j) := by
        have := nb_wrap v j
        rw [IntKind.wrap_u8] at this
        rw [this]; rfl
      rw [hval]
      have hne : g ≠ w.heap.size := by omega
      case rel =>
        refine ⟨j + 1, by omega, by go_num, by simp; omega, ?_, ?_, ?_, ?_, grown_trans HG2.out s2⟩
        · exact s2.cell g0 (by simpa using hne.symm)
        · exact s2.cell g1 (by simpa using hne.symm)
        · exact s2.cell g2 (by simpa using hne.symm)
        · rw [← List.map_set] at s1; exact s1
      case measure => simp [intOf]; omega
    · have h3 : j = k := by omega
      go_wp2_with fail
      go_end0
      subst h3
      exact ⟨rfl, HO.out, HG.out⟩
end Go.Proofs.YtdklggmeigogcaaDoor
