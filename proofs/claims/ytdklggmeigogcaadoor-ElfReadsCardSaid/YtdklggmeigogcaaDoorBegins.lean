/- elf.begins, hartixref7.inside. By an AI agent. -/
import Derived.Test.YtdklggmeigogcaaDoorSeg
set_option linter.unusedVariables false
set_option linter.unusedSimpArgs false
namespace Go.Proofs.YtdklggmeigogcaaDoor
open Go.RowKit
def inX (s : PSeg) (e : Nat) : Prop := ¬ bits .and .u32 (s.fl : Int) 1 = 0 ∧ s.va ≤ e ∧ e < s.va + s.mem
instance (s : PSeg) (e : Nat) : Decidable (inX s e) := by unfold inX; infer_instance
def beginsB : List PSeg → Nat → Bool
  | [], _ => false
  | s :: l, e => if inX s e then decide (e % 2 = 0) else beginsB l e
theorem beginsB_drop (l : List PSeg) (e k : Nat) (h : k < l.length) : beginsB (l.drop k) e = if inX (l.getD k PSeg.z) e then decide (e % 2 = 0) else beginsB (l.drop (k + 1)) e := by
  rw [List.drop_eq_getElem_cons h]
  simp [beginsB, h]
set_option maxHeartbeats 400000 in
theorem begins_any (A : Option Addr) (n c en : Nat) (l : List PSeg) (w : World) (hn : n = l.length) (hm : n ≤ 1099511627776) (he : en < 18446744073709551616) (h : SegsAt w w.heap.size A l) (hl : ∀ i, i < l.length → (l.getD i PSeg.z).va + (l.getD i PSeg.z).mem ≤ 1073741824) :
    Calls Tryd.prog 32 #[.agg #[.int .u64 (en : Int), .slice A n c]] w fun e w' => e = .returned (.bool (beginsB l en)) ∧ Below w.heap.size w w' := by
  have HN := Lib.hid hn
  have HL := Lib.hid hl
  have HS := Lib.hid h
  clear hn hl h
  go_enter Tryd.func32, Tryd.ntmps32
  go_wp2_with fail
  have B1 := Lib.hid ((Below.refl w.heap.size w).alloc (Nat.le_refl _) (.cells #[.int .u64 (en : Int), .slice A n c] 27))
  have F0 : (w.alloc (.cells #[.int .u64 (en : Int), .slice A n c] 27)).cell? ⟨w.heap.size, 0, none⟩ = some (.int .u64 (en : Int)) := by simp [go_sem]
  have F1 : w.heap.size < (w.alloc (.cells #[.int .u64 (en : Int), .slice A n c] 27)).heap.size := by simp
  generalize w.alloc (.cells #[.int .u64 (en : Int), .slice A n c] 27) = W at *
  go_loopw [8] (fun i wr => ∃ k : Nat, k ≤ n ∧ i = .int .i64 k ∧ beginsB l en = beginsB (l.drop k) en ∧ Below W.heap.size W wr) (fun i _ => n + 1 - (intOf i).toNat)
  case atStart => exact ⟨0, by omega, rfl, by simp, Below.refl _ _⟩
  case round =>
    obtain ⟨k, hk, rfl, hbe, hb⟩ := hrel
    
    have HB := Lib.hid hb
    have HE := Lib.hid hbe
    clear hb hbe
    by_cases hlt : k < n
    · have hd := beginsB_drop l en k (by have := HN.out; omega)
      have hl' := HL.out k (by have := HN.out; omega)
      obtain ⟨g, o, D, C, e1, hg, hc⟩ := (HS.out.after (B1.out.trans (HB.out.mono B1.out.size))) (by have := HN.out; omega)
      subst e1
      obtain ⟨c0, c1, c2, c3, -⟩ := hc k (by have := HN.out; omega)
      clear hc
      have F0w : wr.cell? ⟨w.heap.size, 0, none⟩ = some (.int .u64 (en : Int)) := by rw [(bcell HB.out).1 _ _ F1]; exact F0
      have F1w : w.heap.size < wr.heap.size := Nat.lt_of_lt_of_le F1 HB.out.size
      have z1 := World.block_lt_of_cell? _ _ c0
      generalize l.getD k PSeg.z = s at *
      have HB2 := Lib.hid (HB.out.alloc HB.out.size (.cells #[.int .u64 (s.va : Int), .int .u32 (s.fl : Int), .slice (D k) s.dat.length (C k), .int .u64 (s.mem : Int)] 55))
      have z2 : g < wr.heap.size + 1 := by omega
      have F2w : w.heap.size < wr.heap.size + 1 := by omega
      by_cases d1 : bits .and .u32 (s.fl : Int) 1 = 0
      · have HD := Lib.hid (show beginsB (l.drop k) en = beginsB (l.drop (k + 1)) en by rw [hd, if_neg (fun h => h.1 d1)])
        have t1 : (bits .and .u32 (s.fl : Int) 1 != 0) = false := by simp [d1]
        clear hd
        go_wp2; repeat (go_quiet (fail); try go_wp2)
        go_roundw
        case rel => exact ⟨k + 1, by omega, by go_num, by rw [← HD.out]; exact HE.out, by first | exact HB2.out | exact below_drewN HB2.out _⟩
        case measure => simp [intOf]; omega
      · have t1 : (bits .and .u32 (s.fl : Int) 1 != 0) = true := by simp [d1]
        by_cases d2 : s.va ≤ en
        · have t2 : decide ((s.va : Int) ≤ (en : Int)) = true := by simp; omega
          by_cases d3 : en < s.va + s.mem
          · have t3 : decide ((en : Int) < (s.va : Int) + (s.mem : Int)) = true := by simp; omega
            have HD := Lib.hid (show beginsB (l.drop k) en = decide (en % 2 = 0) by rw [hd, if_pos ⟨d1, d2, d3⟩])
            clear hd
            go_wp2; repeat (go_quiet (fail); try go_wp2)
            go_ret
            exact ⟨ret_bool (by rw [HE.out, HD.out, Bool.eq_iff_iff]; simp; omega), by first | exact B1.out.trans (HB2.out.mono B1.out.size) | exact B1.out.trans ((below_drewN HB2.out _).mono B1.out.size)⟩
          · have t3 : decide ((en : Int) < (s.va : Int) + (s.mem : Int)) = false := by simp; omega
            have HD := Lib.hid (show beginsB (l.drop k) en = beginsB (l.drop (k + 1)) en by rw [hd, if_neg (fun h => d3 h.2.2)])
            clear hd
            go_wp2; repeat (go_quiet (fail); try go_wp2)
            go_roundw
            case rel => exact ⟨k + 1, by omega, by go_num, by rw [← HD.out]; exact HE.out, by first | exact HB2.out | exact below_drewN HB2.out _⟩
            case measure => simp [intOf]; omega
        · have t2 : decide ((s.va : Int) ≤ (en : Int)) = false := by simp; omega
          have HD := Lib.hid (show beginsB (l.drop k) en = beginsB (l.drop (k + 1)) en by rw [hd, if_neg (fun h => d2 h.2.1)])
          clear hd
          go_wp2; repeat (go_quiet (fail); try go_wp2)
          go_roundw
          case rel => exact ⟨k + 1, by omega, by go_num, by rw [← HD.out]; exact HE.out, by first | exact HB2.out | exact below_drewN HB2.out _⟩
          case measure => simp [intOf]; omega
    · have h3 : k = n := by omega
      go_wp2_with fail
      go_ret
      exact ⟨ret_bool (by rw [HE.out, List.drop_of_length_le (by have := HN.out; omega)]; rfl), B1.out.trans (HB.out.mono B1.out.size)⟩
theorem inside_any (A : Option Addr) (n c en : Nat) (l : List PSeg) (w : World) (hn : n = l.length) (hm : n ≤ 1099511627776) (he : en < 18446744073709551616) (h : SegsAt w w.heap.size A l) (hl : ∀ i, i < l.length → (l.getD i PSeg.z).va + (l.getD i PSeg.z).mem ≤ 1073741824) :
    Calls Tryd.prog 39 #[.int .u64 (en : Int), .slice A n c] w fun e w' => e = .returned (.bool (beginsB l en)) ∧ Below w.heap.size w w' := by
  have HN := Lib.hid hn
  have HL := Lib.hid hl
  have HS := Lib.hid h
  clear hn hl h
  go_enter Tryd.func39, Tryd.ntmps39
  go_wp2_with fail
  go_loopw [5] (fun i wr => ∃ k : Nat, k ≤ n ∧ i = .int .i64 k ∧ beginsB l en = beginsB (l.drop k) en ∧ Below w.heap.size w wr) (fun i _ => n + 1 - (intOf i).toNat)
  case atStart => exact ⟨0, by omega, rfl, by simp, Below.refl _ _⟩
  case round =>
    obtain ⟨k, hk, rfl, hbe, hb⟩ := hrel
    
    have HB := Lib.hid hb
    have HE := Lib.hid hbe
    clear hb hbe
    by_cases hlt : k < n
    · have hd := beginsB_drop l en k (by have := HN.out; omega)
      have hl' := HL.out k (by have := HN.out; omega)
      obtain ⟨g, o, D, C, e1, hg, hc⟩ := (HS.out.after HB.out) (by have := HN.out; omega)
      subst e1
      obtain ⟨c0, c1, c2, c3, -⟩ := hc k (by have := HN.out; omega)
      clear hc
      have z1 := World.block_lt_of_cell? _ _ c0
      generalize l.getD k PSeg.z = s at *
      by_cases d1 : bits .and .u32 (s.fl : Int) 1 = 0
      · have HD := Lib.hid (show beginsB (l.drop k) en = beginsB (l.drop (k + 1)) en by rw [hd, if_neg (fun h => h.1 d1)])
        have t1 : (bits .and .u32 (s.fl : Int) 1 != 0) = false := by simp [d1]
        clear hd
        go_wp2; repeat (go_quiet (fail); try go_wp2)
        go_roundw
        case rel => exact ⟨k + 1, by omega, by go_num, by rw [← HD.out]; exact HE.out, by first | exact HB.out | exact below_drewN HB.out _⟩
        case measure => simp [intOf]; omega
      · have t1 : (bits .and .u32 (s.fl : Int) 1 != 0) = true := by simp [d1]
        by_cases d2 : s.va ≤ en
        · have t2 : decide ((s.va : Int) ≤ (en : Int)) = true := by simp; omega
          by_cases d3 : en < s.va + s.mem
          · have t3 : decide ((en : Int) < (s.va : Int) + (s.mem : Int)) = true := by simp; omega
            have HD := Lib.hid (show beginsB (l.drop k) en = decide (en % 2 = 0) by rw [hd, if_pos ⟨d1, d2, d3⟩])
            clear hd
            go_wp2; repeat (go_quiet (fail); try go_wp2)
            go_ret
            exact ⟨ret_bool (by rw [HE.out, HD.out, Bool.eq_iff_iff]; simp; omega), by first | exact HB.out | exact below_drewN HB.out _⟩
          · have t3 : decide ((en : Int) < (s.va : Int) + (s.mem : Int)) = false := by simp; omega
            have HD := Lib.hid (show beginsB (l.drop k) en = beginsB (l.drop (k + 1)) en by rw [hd, if_neg (fun h => d3 h.2.2)])
            clear hd
            go_wp2; repeat (go_quiet (fail); try go_wp2)
            go_roundw
            case rel => exact ⟨k + 1, by omega, by go_num, by rw [← HD.out]; exact HE.out, by first | exact HB.out | exact below_drewN HB.out _⟩
            case measure => simp [intOf]; omega
        · have t2 : decide ((s.va : Int) ≤ (en : Int)) = false := by simp; omega
          have HD := Lib.hid (show beginsB (l.drop k) en = beginsB (l.drop (k + 1)) en by rw [hd, if_neg (fun h => d2 h.2.1)])
          clear hd
          go_wp2; repeat (go_quiet (fail); try go_wp2)
          go_roundw
          case rel => exact ⟨k + 1, by omega, by go_num, by rw [← HD.out]; exact HE.out, by first | exact HB.out | exact below_drewN HB.out _⟩
          case measure => simp [intOf]; omega
    · have h3 : k = n := by omega
      go_wp2_with fail
      go_ret
      exact ⟨ret_bool (by rw [HE.out, List.drop_of_length_le (by have := HN.out; omega)]; rfl), HB.out⟩
end Go.Proofs.YtdklggmeigogcaaDoor
