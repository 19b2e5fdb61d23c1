/- hartixref7.Same: the same program. By an AI agent. -/
import Derived.Test.YtdklggmeigogcaaDoorOwn
set_option linter.unusedVariables false
set_option linter.unusedSimpArgs false
namespace Go.Proofs.YtdklggmeigogcaaDoor
open Go.RowKit
set_option maxRecDepth 100000 in
set_option maxHeartbeats 4000000 in
theorem same_true (en n c c' : Nat) (A A' : Option Addr) (l : List PSeg) (w : World) (hn : n = l.length) (hm : n ≤ 1048576) (hD : ∀ i, i < l.length → (l.getD i PSeg.z).dat.length ≤ 140737488351232) (h1 : SegsAt w w.heap.size A l) (h2 : SegsAt w w.heap.size A' l) :
    Calls Tryd.prog 13 #[.agg #[.int .u64 (en : Int), .slice A n c], .agg #[.int .u64 (en : Int), .slice A' n c']] w fun e w' => e = .returned (.bool true) ∧ Below w.heap.size w w' := by
  have HN := Lib.hid hn
  have HDD := Lib.hid hD
  have H1 := Lib.hid h1
  have H2 := Lib.hid h2
  clear hn hD h1 h2
  go_enter Tryd.func13, Tryd.ntmps13
  go_wp2_with fail
  have HBW := Lib.hid (((Below.refl w.heap.size w).alloc (Nat.le_refl _) (.cells #[.int .u64 (en : Int), .slice A n c] 27)).alloc (by simp) (.cells #[.int .u64 (en : Int), .slice A' n c'] 27))
  have F0 : ((w.alloc (.cells #[.int .u64 (en : Int), .slice A n c] 27)).alloc (.cells #[.int .u64 (en : Int), .slice A' n c'] 27)).cell? ⟨w.heap.size, 1, none⟩ = some (.slice A n c) := by simp [go_sem]
  have F1 : ((w.alloc (.cells #[.int .u64 (en : Int), .slice A n c] 27)).alloc (.cells #[.int .u64 (en : Int), .slice A' n c'] 27)).cell? ⟨w.heap.size + 1, 1, none⟩ = some (.slice A' n c') := by simp [go_sem]
  have FL : w.heap.size + 1 < ((w.alloc (.cells #[.int .u64 (en : Int), .slice A n c] 27)).alloc (.cells #[.int .u64 (en : Int), .slice A' n c'] 27)).heap.size := by simp
  generalize (w.alloc (.cells #[.int .u64 (en : Int), .slice A n c] 27)).alloc (.cells #[.int .u64 (en : Int), .slice A' n c'] 27) = W at *
  generalize hr : w.heap.size = r at *
  have FF := Lib.hid (And.intro F0 F1)
  clear F0 F1
  go_loopw [5] (fun i wr => ∃ k : Nat, k ≤ n ∧ i = .int .i64 k ∧ Below W.heap.size W wr) (fun i _ => n + 1 - (intOf i).toNat)
  case atStart => exact ⟨0, by omega, rfl, Below.refl _ _⟩
  case round =>
    obtain ⟨k, hk, rfl, hb⟩ := hrel
    have HB := Lib.hid hb
    have f0 : wr.cell? ⟨r, 1, none⟩ = some (.slice A n c) := by rw [(bcell hb).1 _ _ (by omega)]; exact FF.out.1
    have f1 : wr.cell? ⟨r + 1, 1, none⟩ = some (.slice A' n c') := by rw [(bcell hb).1 _ _ (by omega)]; exact FF.out.2
    have z0 : r < wr.heap.size := by have := hb.size; omega
    have z1 : r + 1 < wr.heap.size := by have := hb.size; omega
    have z2 : r < wr.heap.size + 1 := by omega
    have z3 : r + 1 < wr.heap.size + 1 := by omega
    clear hb
    by_cases hlt : k < n
    · obtain ⟨g, o, D, C, e1, hg, hc⟩ := (H1.out.after (HBW.out.trans (HB.out.mono (by omega)))) (by have := HN.out; omega)
      obtain ⟨g', o', D', C', e2, hg', hc'⟩ := (H2.out.after (HBW.out.trans (HB.out.mono (by omega)))) (by have := HN.out; omega)
      subst e1 e2
      obtain ⟨c0, c1, c2, c3, c4⟩ := hc k (by have := HN.out; omega)
      obtain ⟨d0, d1, d2, d3, d4⟩ := hc' k (by have := HN.out; omega)
      have hdl := HDD.out k (by have := HN.out; omega)
      clear hc hc'
      generalize l.getD k PSeg.z = s at *
      have y0 : g < wr.heap.size := by omega
      have y1 : g' < wr.heap.size := by omega
      have y2 : g < wr.heap.size + 1 := by omega
      have y3 : g' < wr.heap.size + 1 := by omega
      have hkn : (k : Int) < (n : Int) := by omega
      have B4 := Lib.hid c4
      have B4' := Lib.hid d4
      clear c4 d4
      go_wp2_with fail
      have HB2 := Lib.hid ((HB.out.alloc HB.out.size (.cells #[.int .u64 (s.va : Int), .int .u32 (s.fl : Int), .slice (D k) s.dat.length (C k), .int .u64 (s.mem : Int)] 55)).alloc (by have := HB.out.size; simp; omega) (.cells #[.int .u64 (s.va : Int), .int .u32 (s.fl : Int), .slice (D' k) s.dat.length (C' k), .int .u64 (s.mem : Int)] 55))
      have G0 : ((wr.alloc (.cells #[.int .u64 (s.va : Int), .int .u32 (s.fl : Int), .slice (D k) s.dat.length (C k), .int .u64 (s.mem : Int)] 55)).alloc (.cells #[.int .u64 (s.va : Int), .int .u32 (s.fl : Int), .slice (D' k) s.dat.length (C' k), .int .u64 (s.mem : Int)] 55)).cell? ⟨wr.heap.size, 2, none⟩ = some (.slice (D k) s.dat.length (C k)) := by simp [go_sem]
      have G1 : ((wr.alloc (.cells #[.int .u64 (s.va : Int), .int .u32 (s.fl : Int), .slice (D k) s.dat.length (C k), .int .u64 (s.mem : Int)] 55)).alloc (.cells #[.int .u64 (s.va : Int), .int .u32 (s.fl : Int), .slice (D' k) s.dat.length (C' k), .int .u64 (s.mem : Int)] 55)).cell? ⟨wr.heap.size + 1, 2, none⟩ = some (.slice (D' k) s.dat.length (C' k)) := by simp [go_sem]
      have GG := Lib.hid (And.intro G0 G1)
      have GB := Lib.hid (((Below.refl wr.heap.size wr).alloc (Nat.le_refl _) (.cells #[.int .u64 (s.va : Int), .int .u32 (s.fl : Int), .slice (D k) s.dat.length (C k), .int .u64 (s.mem : Int)] 55)).alloc (by simp) (.cells #[.int .u64 (s.va : Int), .int .u32 (s.fl : Int), .slice (D' k) s.dat.length (C' k), .int .u64 (s.mem : Int)] 55))
      have GL : wr.heap.size + 1 < ((wr.alloc (.cells #[.int .u64 (s.va : Int), .int .u32 (s.fl : Int), .slice (D k) s.dat.length (C k), .int .u64 (s.mem : Int)] 55)).alloc (.cells #[.int .u64 (s.va : Int), .int .u32 (s.fl : Int), .slice (D' k) s.dat.length (C' k), .int .u64 (s.mem : Int)] 55)).heap.size := by simp
      clear G0 G1 f0 f1 c0 c1 c2 c3 d0 d1 d2 d3
      generalize (wr.alloc (.cells #[.int .u64 (s.va : Int), .int .u32 (s.fl : Int), .slice (D k) s.dat.length (C k), .int .u64 (s.mem : Int)] 55)).alloc (.cells #[.int .u64 (s.va : Int), .int .u32 (s.fl : Int), .slice (D' k) s.dat.length (C' k), .int .u64 (s.mem : Int)] 55) = W2 at *
      generalize wr.heap.size = q at *
      obtain ⟨wo, rfl⟩ : ∃ wo : World, wo = wr := ⟨_, rfl⟩
      go_loopw [8] (fun i wx => ∃ j : Nat, j ≤ s.dat.length ∧ i = .int .i64 j ∧ Below W2.heap.size W2 wx) (fun i _ => s.dat.length + 1 - (intOf i).toNat)
      case atStart => exact ⟨0, by omega, rfl, Below.refl _ _⟩
      case round =>
        obtain ⟨j, hj, rfl, hbx⟩ := hrel
        have HBX := Lib.hid hbx
        have g0 : wr.cell? ⟨q, 2, none⟩ = some (.slice (D k) s.dat.length (C k)) := by rw [(bcell hbx).1 _ _ (by omega)]; exact GG.out.1
        have g1 : wr.cell? ⟨q + 1, 2, none⟩ = some (.slice (D' k) s.dat.length (C' k)) := by rw [(bcell hbx).1 _ _ (by omega)]; exact GG.out.2
        have q0 : q < wr.heap.size := by have := hbx.size; omega
        have q1 : q + 1 < wr.heap.size := by have := hbx.size; omega
        clear hbx
        by_cases hlj : j < s.dat.length
        · obtain ⟨ga, oa, ea, hga, hca⟩ := B4.out (by omega)
          obtain ⟨gb, ob, eb, hgb, hcb⟩ := B4'.out (by omega)
          have p1 : wr.cell? ⟨ga, oa + j, none⟩ = some (.int .u8 ((s.dat.getD j 0 : Nat) : Int)) := by
            rw [(bcell HBX.out).1 _ _ (by omega), GB.out.cell (p := ⟨ga, oa + j, none⟩) (by show ga < q; omega)]; exact hca j hlj
          have p2 : wr.cell? ⟨gb, ob + j, none⟩ = some (.int .u8 ((s.dat.getD j 0 : Nat) : Int)) := by
            rw [(bcell HBX.out).1 _ _ (by omega), GB.out.cell (p := ⟨gb, ob + j, none⟩) (by show gb < q; omega)]; exact hcb j hlj
          have x1 := World.block_lt_of_cell? _ _ p1
          have x2 := World.block_lt_of_cell? _ _ p2
          clear hca hcb
          rw [ea] at g0
          rw [eb] at g1
          clear ea eb
          generalize s.dat.getD j 0 = y at *
          go_wp2
          repeat (go_quiet (fail); try go_wp2)
          go_roundw
          case rel => exact ⟨j + 1, by omega, by go_num, by first | exact HBX.out | exact below_drewN HBX.out _⟩
          case measure => simp [intOf]; omega
        · have h3 : j = s.dat.length := by omega
          go_wp2_with fail
          go_roundw
          case rel => exact ⟨k + 1, by omega, by go_num, HB2.out.trans (HBX.out.mono (by have := HB2.out.size; omega))⟩
          case measure => simp [intOf]; omega
    · have h3 : k = n := by omega
      go_wp2_with fail
      go_ret
      exact ⟨rfl, by rw [← hr] at *; exact HBW.out.trans (HB.out.mono (by omega))⟩
end Go.Proofs.YtdklggmeigogcaaDoor
