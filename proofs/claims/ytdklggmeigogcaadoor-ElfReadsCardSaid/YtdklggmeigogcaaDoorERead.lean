/- elf.Read of a file of 64 bytes or more. By an AI agent. -/
import Derived.Test.YtdklggmeigogcaaDoorPanicD
import Derived.Test.YtdklggmeigogcaaDoorRRead
import Derived.Deep.RegionLaw
set_option linter.unusedVariables false
set_option linter.unusedSimpArgs false
namespace Go.Proofs.YtdklggmeigogcaaDoor
open Go.RowKit
theorem headC_zero {L : List Nat} (h : (headC L).1 = 0) : headC L = (0, 0) ∧ 1 ≤ fld L 56 2 ∧ fld L 56 2 ≤ 64 ∧ fld L 32 8 + 56 * fld L 56 2 ≤ L.length ∧ L.length ≤ 262144 := by
  unfold headC at h ⊢
  split at h
  · simp at h
  · rename_i h1
    split at h
    · simp at h
    · rename_i h2
      split at h
      · rename_i h3; exact absurd h h3
      · rename_i h3
        split at h
        · simp at h
        · rename_i h4
          split at h
          · simp at h
          · rename_i h5
            rw [if_neg h1, if_neg h2, if_neg h3, if_neg h4, if_neg h5]
            refine ⟨rfl, by omega, by omega, by omega, by omega⟩
theorem get_type (x : Nat) (g o n c base : Nat) (L : List Nat) (w : World) (hx : fld L base 4 = x) (hL : ∀ i, L.getD i 0 < 256) (h1 : base + 4 ≤ L.length) (h2 : 4 ≤ c) (hc : c ≤ 9223372036854775807) (h : CellsAt w g o L) :
    Calls Tryd.prog 29 #[.agg #[.int .i64 0, .int .i64 4, .int .u64 0], .slice (some ⟨g, o + base, none⟩) n c] w fun e w' => e = .returned (.int .u64 (x : Int)) ∧ Below w.heap.size w w' :=
  get_sub x g o n c base 0 4 0 L w hx hL (by decide) (by decide) (by omega) (by omega) hc h
theorem seg_ok (g o n c y j m cc : Nat) (A : Option Addr) (L : List Nat) (l : List PSeg) (w : World) (sg : PSeg) (hn : n = L.length) (hnc : n ≤ c) (hc : c ≤ 9223372036854775807) (h2 : n ≤ 262144) (hat : y + 56 * j + 56 ≤ n) (hL : ∀ i, L.getD i 0 < 256) (hT : TabR w)
    (h : CellsAt w g o L) (hm : m = l.length) (h8 : m ≤ 8) (hS : SegsAt w w.heap.size A l) (hE : ∀ i, i < l.length → (l.getD i PSeg.z).va + (l.getD i PSeg.z).mem ≤ 1073741824) (h0 : segC L (y + 56 * j) l = 0) (hsg : segOf L (y + 56 * j) = sg) :
    Calls Tryd.prog 30 #[.slice (some ⟨g, o, none⟩) n c, .int .i64 ((y : Int) + 56 * (j : Int)), .slice A m cc] w fun e w' => ∃ dv, e = .returned (.agg #[.int .u64 (sg.va : Int), .int .u32 (sg.fl : Int), dv, .int .u64 (sg.mem : Int)]) ∧ OwnB w' w.heap.size dv sg.dat ∧ Below w.heap.size w w' := by
  have := segment_any g o n c (y + 56 * j) m cc A L l w hn hnc hc h2 hat hL hT h hm h8 hS hE
  subst hsg
  refine Calls.mono (by simpa using this) ?_
  rintro e w' ⟨⟨_, dv, h1, h2⟩ | ⟨h1, _⟩, hb⟩
  · exact ⟨dv, h1, h2, hb⟩
  · exact absurd h0 h1
theorem seg_bad (g o n c y j m cc : Nat) (A : Option Addr) (L : List Nat) (l : List PSeg) (w : World) (cd : Int) (hn : n = L.length) (hnc : n ≤ c) (hc : c ≤ 9223372036854775807) (h2 : n ≤ 262144) (hat : y + 56 * j + 56 ≤ n) (hL : ∀ i, L.getD i 0 < 256) (hT : TabR w)
    (h : CellsAt w g o L) (hm : m = l.length) (h8 : m ≤ 8) (hS : SegsAt w w.heap.size A l) (hE : ∀ i, i < l.length → (l.getD i PSeg.z).va + (l.getD i PSeg.z).mem ≤ 1073741824) (h0 : segC L (y + 56 * j) l = cd) (hcd : cd ≠ 0) :
    Calls Tryd.prog 30 #[.slice (some ⟨g, o, none⟩) n c, .int .i64 ((y : Int) + 56 * (j : Int)), .slice A m cc] w fun e w' => Refused ((y + 56 * j : Nat) : Int) cd w.heap.size e w' ∧ Below w.heap.size w w' := by
  have := segment_any g o n c (y + 56 * j) m cc A L l w hn hnc hc h2 hat hL hT h hm h8 hS hE
  subst h0
  refine Calls.mono (by simpa using this) ?_
  rintro e w' ⟨⟨h1, _⟩ | ⟨_, hr⟩, hb⟩
  · exact absurd h1 hcd
  · exact ⟨hr, hb⟩
theorem own_far {w : World} {B : Nat} {v : Value} {l : List PSeg} (h : SegsOwn w B v l) : ∀ k, v.ownBlock = some k → B ≤ k := fun k hk => by
  obtain ⟨ds, _, e2, _⟩ := h
  exact (e2.lt k hk).1
theorem eseg_block {W w7 w8 w9 : World} {r : Nat} {v v0 : Value} {l : List PSeg} {o : Obj} (hk : w7.heap[r]? = some (.cells #[v0, v] 27)) (hb : Below w7.heap.size w7 w8) (hs : SegsOwn w7 W.heap.size v l) (hgr : (w8.alloc o).grownBy w9 v.ownBlock) (hr : r < W.heap.size) (h7 : r < w7.heap.size) :
    w9.heap[r]? = some (.cells #[v0, v] 27) := by
  have hz := hb.size
  rw [hgr.block r (by simp; omega) (fun e => by have := own_far hs r e.symm; omega), Below.heap_alloc _ _ _ (by omega), hb.block _ h7]; exact hk
theorem eseg_round {W w7 w8 w9 : World} {r : Nat} {v v0 v' : Value} {l l' : List PSeg} {o : Obj} (hk : w9.heap[r]? = some (.cells #[v0, v] 27)) (hb : Below w7.heap.size w7 w8) (hs : SegsOwn w7 W.heap.size v l) (hgr : (w8.alloc o).grownBy w9 v.ownBlock) (hr : r < W.heap.size) (h7 : r < w7.heap.size) (hg : W.grownBy w7 (some r)) (hso : SegsOwn w9 W.heap.size v' l') :
    (w9.setCell ⟨r, 1, none⟩ v').heap[r]? = some (.cells #[v0, v'] 27) ∧ SegsOwn (w9.setCell ⟨r, 1, none⟩ v') W.heap.size v' l' ∧ W.grownBy (w9.setCell ⟨r, 1, none⟩ v') (some r) := by
  refine ⟨heap_setCell_same _ r 1 _ 27 v' hk, hso.far (grown_set _ _ _) hr, ?_⟩
  have hz := hb.size
  have hz2 := hgr.size
  have hz3 := hg.size
  simp at hz2
  refine grown_trans (w1 := w9) ⟨hgr.os.trans (hb.os.trans hg.os), hgr.tape.trans (hb.tape.trans hg.tape), hgr.output.trans (hb.output.trans hg.output), by omega, fun k hk hn => ?_⟩ (grown_set _ _ _)
  rw [hgr.block k (by simp; omega) (fun e => by have := own_far hs k e.symm; omega), Below.heap_alloc _ _ _ (by omega), hb.block _ (by omega)]
  exact hg.block k hk hn
set_option maxRecDepth 100000 in
set_option maxHeartbeats 4000000 in
theorem eread_any (g o n c : Nat) (L : List Nat) (w : World) (hn : n = L.length) (hnc : n ≤ c) (hc : c ≤ 9223372036854775807) (h1 : 64 ≤ n) (h2 : n ≤ 262144) (hL : ∀ i, L.getD i 0 < 256) (hT : TabR w) (h : CellsAt w g o L) :
    Calls Tryd.prog 10 #[.slice (some ⟨g, o, none⟩) n c] w (EPost L w) := by
  have hmf : ∀ (fn : Fn) (first cap : Array Value) (w : World), (Instr.makeFunc fn first cap).run Tryd.prog w = .ok (.func fn first cap) w := fun _ _ _ _ => rfl
  have re0 : RE ((w.alloc (.cells #[.int .u64 0, .slice none 0 0] 27)).alloc (.cells #[.nilIface] 29)) w.heap.size (.int .u64 0) (.slice none 0 0) := by
    constructor <;> simp [go_sem]
  have RW := Lib.hid re0
  have HBW := Lib.hid (((Below.refl w.heap.size w).alloc (Nat.le_refl _) (.cells #[.int .u64 0, .slice none 0 0] 27)).alloc (by simp) (.cells #[.nilIface] 29))
  have KW := Lib.hid (show ((w.alloc (.cells #[.int .u64 0, .slice none 0 0] 27)).alloc (.cells #[.nilIface] 29)).heap[w.heap.size]? = some (.cells #[.int .u64 0, .slice none 0 0] 27) by rw [Below.heap_alloc _ _ _ (by simp)]; exact heap_alloc_new _ _)
  have HN := Lib.hid hn
  have HL := Lib.hid hL
  have hg := World.block_lt_of_cell? _ _ (h 0 (by omega))
  have CW := Lib.hid (h.after (B := w.heap.size) HBW.out hg)
  have TW := Lib.hid (hT.after HBW.out)
  have HT := Lib.hid hT
  clear re0 hn hL h hT
  go_enter_defers Tryd.func10, Tryd.ntmps10
  go_wp2_with fail
  generalize (w.alloc (.cells #[.int .u64 0, .slice none 0 0] 27)).alloc (.cells #[.nilIface] 29) = W at *
  generalize hr : w.heap.size = r at *
  have rlW : r + 1 < W.heap.size := RW.out.lt
  have rlW' : r < W.heap.size := by omega
  have gW : g < W.heap.size := by omega
  refine (head_any g o n c L _ HN.out hnc hc h1 h2 HL.out TW.out CW.out).mono ?_
  rintro e w2 ⟨⟨hh0, rfl⟩ | ⟨hh0, er, rfl, hc9, her⟩, hb2⟩
  · obtain ⟨hhz, k1, k2, k3, -⟩ := headC_zero hh0
    obtain ⟨x, hx⟩ : ∃ x, fld L 56 2 = x := ⟨_, rfl⟩
    obtain ⟨y, hy⟩ : ∃ y, fld L 32 8 = y := ⟨_, rfl⟩
    obtain ⟨en, hen⟩ : ∃ y, fld L 24 8 = y := ⟨_, rfl⟩
    have be : en < 18446744073709551616 := by have h : fld L 24 8 < 18446744073709551616 := fld_lt L HL.out 24 8; rw [hen] at h; exact h
    rw [hx] at k1 k2 k3
    rw [hy] at k3
    rw [hx, hy]
    have HX := Lib.hid hx
    have HY := Lib.hid hy
    have HEN := Lib.hid hen
    have HK := Lib.hid hhz
    have HB2 := Lib.hid hb2
    have K2 := Lib.hid (show w2.heap[r]? = some (.cells #[.int .u64 0, .slice none 0 0] 27) from (hb2.block _ (by omega)).trans KW.out)
    have hlen : y + 56 * x ≤ n := by have := HN.out; omega
    clear hx hy hen hhz hh0 hb2 k3
    go_wp2_with fail
    go_loopw [15] (fun i wr => ∃ (j : Nat) (v : Value), j ≤ x ∧ i = .int .i64 j ∧ (run L y j).1 = 0 ∧ wr.heap[r]? = some (.cells #[.int .u64 0, v] 27) ∧ SegsOwn wr W.heap.size v (run L y j).2.2 ∧ W.grownBy wr (some r)) (fun i _ => 65 - (intOf i).toNat)
    case atStart => exact ⟨0, .slice none 0 0, by omega, rfl, rfl, K2.out, SegsOwn.nil _ _, grown_of_below HB2.out _⟩
    case round =>
      obtain ⟨j, v, hj, rfl, hrun, hk, hso, hgw⟩ := hrel
      obtain ⟨A, cc, rfl⟩ := hso.form
      obtain ⟨l, hl⟩ : ∃ l, (run L y j).2.2 = l := ⟨_, rfl⟩
      have hEn := run_ends L y j
      have hFw := run_few L y j
      rw [hl] at hso hEn hFw hk
      have HRL := Lib.hid hl
      have HRN := Lib.hid hrun
      have HSO := Lib.hid hso
      have HGW := Lib.hid hgw
      have HKW := Lib.hid hk
      have zwr := hgw.size
      have rwr : r < wr.heap.size := by omega
      have v0 : wr.cell? ⟨r, 0, none⟩ = some (.int .u64 0) := by simp [World.cell?, hk]
      have v1 : wr.cell? ⟨r, 1, none⟩ = some (.slice A l.length cc) := by simp [World.cell?, hk]
      have v2 : wr.frozen? ⟨r, 0, none⟩ = false := by simp [World.frozen?, hk]
      have v3 : wr.frozen? ⟨r, 1, none⟩ = false := by simp [World.frozen?, hk]
      have HBR := Lib.hid (show Below r W wr from ⟨hgw.os, hgw.tape, hgw.output, hgw.size, fun k hk => hgw.block k (by omega) (by simp; omega)⟩)
      have HRE := Lib.hid (show RE wr r (.int .u64 0) (.slice A l.length cc) from ⟨v0, v1, by rw [hgw.cell_far _ (by exact rlW) (by simp)]; exact RW.out.a2, v2, v3, by rw [hgw.frozen_far _ (by exact rlW) (by simp)]; exact RW.out.f2, by omega⟩)
      have HEN' := Lib.hid hEn
      have HFW := Lib.hid hFw
      have TR := Lib.hid (show TabR wr from HT.out.after (by rw [hr]; exact HBW.out.trans HBR.out))
      have CR := Lib.hid (show CellsAt wr g o L from CW.out.after HBR.out (by omega))
      have gr : g < wr.heap.size := by omega
      clear hrun hso hgw hk hEn hFw hl v2 v3
      by_cases hlt : j < x
      · obtain ⟨ty, hty⟩ : ∃ t, fld L (y + 56 * j) 4 = t := ⟨_, rfl⟩
        have HTY := Lib.hid hty
        clear hty
        have hx9 : (j : Int) < (x : Int) := by omega
        go_wp2_with fail
        have hs0 : (0 : Int) ≤ (y : Int) + 56 * (j : Int) := by omega
        have hs1 : (y : Int) + 56 * (j : Int) ≤ (n : Int) := by omega
        have hs2 : ((y : Int) + 56 * (j : Int)).toNat = y + 56 * j := by omega
        have hs3 : ¬ c = y + 56 * j := by omega
        obtain ⟨tc0, tc1, tc2⟩ := TR.out.type.cells
        have HSof : Hid (∀ w' : World, Below wr.heap.size wr w' → w'.cell? ⟨0, 0, none⟩ = some (.int .i64 0) ∧ w'.cell? ⟨0, 1, none⟩ = some (.int .i64 4) ∧ w'.cell? ⟨0, 2, none⟩ = some (.int .u64 0) ∧ Below wr.heap.size wr w') := Lib.hid fun w' hb => by
          have T' := TR.out.after hb
          exact ⟨T'.type.cells.1, T'.type.cells.2.1, T'.type.cells.2.2, hb⟩
        go_region_held3 (fun w' => w'.cell? ⟨0, 0, none⟩ = some (.int .i64 0) ∧ w'.cell? ⟨0, 1, none⟩ = some (.int .i64 4) ∧ w'.cell? ⟨0, 2, none⟩ = some (.int .u64 0) ∧ Below wr.heap.size wr w') ((refine HSof.out _ ?_; repeat' (first | with_reducible assumption | with_reducible exact Below.refl _ _ | exact Nat.le_refl _ | with_reducible refine Below.drew ?_ | with_reducible refine Below.trans ?_ (Below.mono (by assumption) ?_) | (simp; done) | (refine Below.size (by assumption))))) ((go_at_call 29; (with_reducible refine (get_type ty g o (n - (y + 56 * j)) (c - (y + 56 * j)) (y + 56 * j) L _ HTY.out HL.out (by have := HN.out; omega) (by omega) (by omega) (CR.out.after (show Below wr.heap.size wr _ by repeat' (first | with_reducible assumption | with_reducible exact Below.refl _ _ | exact Nat.le_refl _ | with_reducible refine Below.drew ?_ | with_reducible refine Below.trans ?_ (Below.mono (by assumption) ?_) | (simp; done) | (refine Below.size (by assumption)))) gr)).mono ?_); rintro e w7 ⟨rfl, hb7⟩; replace hb7 := chain3 (W := wr) (by repeat' (first | with_reducible assumption | with_reducible exact Below.refl _ _ | with_reducible refine Below.drew ?_)) hb7))
        all_goals
          have HB7 := Lib.hid (HBR.out.trans (hb7.mono (by omega)))
          have HBV := Lib.hid hb7
          have r7 : r < w7.heap.size := Nat.lt_of_lt_of_le rwr hb7.size
          have K7 := Lib.hid (show w7.heap[r]? = some (.cells #[.int .u64 0, .slice A l.length cc] 27) from (hb7.block _ rwr).trans HKW.out)
          have RE7 := Lib.hid (HRE.out.after hb7)
          have g7 : g < w7.heap.size := Nat.lt_of_lt_of_le gr hb7.size
          have CR7 := Lib.hid (CR.out.after hb7 gr)
          have TR7 := Lib.hid (TR.out.after hb7)
          have HS7 := Lib.hid (HSO.out.keep hb7)
          have HG7 := Lib.hid (show W.grownBy w7 (some r) from grown_trans HGW.out (grown_of_below hb7 _))
          have u1 : w7.cell? ⟨r, 1, none⟩ = some (.slice A l.length cc) := RE7.out.a1
          clear HSof hb7 v0 v1 tc0 tc1 tc2
          by_cases ht1 : ty = 1
          · have ht2 : ((ty : Int) == 1) = true := by simp [ht1]
            obtain ⟨cd, hcd⟩ : ∃ t, segC L (y + 56 * j) l = t := ⟨_, rfl⟩
            have HCD := Lib.hid hcd
            clear hcd
            go_wp2_with fail
            by_cases hc0 : cd = 0
            · obtain ⟨sg, hsg⟩ : ∃ s, segOf L (y + 56 * j) = s := ⟨_, rfl⟩
              have HSG := Lib.hid hsg
              have HC0 := Lib.hid (HCD.out.trans hc0)
              clear hsg
              refine wp_region_noPanic ?_
              go_region_law (first | (go_simp; go_at_call 30; refine (seg_ok g o n c y j l.length cc A L l _ sg HN.out hnc hc h2 (by omega) HL.out (by exact TR7.out.after (show Below w7.heap.size w7 _ from by repeat' (first | with_reducible exact Below.refl _ _ | with_reducible refine Below.drew ?_))) (by exact CR7.out.after (show Below w7.heap.size w7 _ from by repeat' (first | with_reducible exact Below.refl _ _ | with_reducible refine Below.drew ?_)) g7) rfl HFW.out (by exact (HS7.out.keep (show Below w7.heap.size w7 _ from by repeat' (first | with_reducible exact Below.refl _ _ | with_reducible refine Below.drew ?_))).at_.2) HEN'.out HC0.out HSG.out).mono ?_; rintro e w8 ⟨dv, rfl, hown, hb8⟩; have hb8' := below_undrewS hb8; have z1 : w8.cell? ⟨r, 1, none⟩ = some (.slice A l.length cc) := ((bcell hb8').1 _ _ r7).trans u1; have z2 : r < w8.heap.size := Nat.lt_of_lt_of_le r7 hb8'.size; dsimp only) | (refine step_seg rfl (.tmp 29) (.tmp 35) rfl W.heap.size (.slice A l.length cc) l (by simp [Act.eval, Act.put]) w7 HS7.out w8.heap.size sg dv (by simp [Act.eval, Act.put]) (cells4 (by simp [go_sem]) (by simp [go_sem]) (by simp [go_sem]) (by simp [go_sem])) ((hown.alloc _).mono HG7.out.size) hown.one (fun g hg => (World.ownsRow.lt hown g hg).1) (hb8'.alloc hb8'.size _) (by have := HFW.out; omega) (by have := HG7.out.size; have := hb8'.size; simp; omega) ?_; intro v' w9 hso hform hgr; obtain ⟨g9, cap9, rfl⟩ := hform; have K9 := eseg_block K7.out hb8' HS7.out hgr rlW' r7; have t1 : w9.cell? ⟨r, 1, none⟩ = some (.slice A l.length cc) := (by simp [World.cell?, K9]); have t2 : w9.frozen? ⟨r, 1, none⟩ = false := (by simp [World.frozen?, K9])))
              all_goals
                refine NoPanic.normal ?_
                have HR9 := Lib.hid (eseg_round K9 hb8' HS7.out hgr rlW' r7 HG7.out hso)
                have HRM := Lib.hid (show run L y (j + 1) = (0, 0, l ++ [sg]) by
                  rw [run_more L y j HRN.out (by rw [HTY.out]; exact ht1) (by rw [HRL.out]; exact HC0.out), HRL.out, HSG.out])
                clear K9 t1 t2 hso hgr z1
                go_wp2_with fail
                go_roundw
                case rel => exact ⟨j + 1, _, by omega, by go_num, by rw [HRM.out], HR9.out.1, by rw [HRM.out]; exact HR9.out.2.1, HR9.out.2.2⟩
                case measure => simp [intOf]; omega
            · have hcc9 : (cd != 0) = true := by simpa using hc0
              have HRB := Lib.hid (show run L y (j + 1) = (cd, ((y + 56 * j : Nat) : Int), []) by
                rw [run_bad L y j HRN.out (by rw [HTY.out]; exact ht1) (by rw [HRL.out, HCD.out]; exact hc0), HRL.out, HCD.out])
              have HH := Lib.hid (show readC L = (cd, ((y + 56 * j : Nat) : Int)) from readC_run HK.out HX.out HY.out (j + 1) (by omega) (by rw [HRB.out]; simp) hcc9)
              have HS8 : Hid (∀ w' : World, Below w7.heap.size w7 w' → w'.cell? ⟨r, 1, none⟩ = some (.slice A l.length cc) ∧ Below w7.heap.size w7 w') := Lib.hid fun w' hb => ⟨((bcell hb).1 _ _ r7).trans u1, hb⟩
              refine wp_region_held_drew (S := (fun w' => w'.cell? ⟨r, 1, none⟩ = some (.slice A l.length cc) ∧ Below w7.heap.size w7 w')) (by kernel_rfl) (by (try dsimp only); refine HS8.out _ ?_; repeat' (first | with_reducible assumption | with_reducible exact Below.refl _ _ | exact Nat.le_refl _ | with_reducible refine Below.drew ?_ | with_reducible refine Below.trans ?_ (Below.mono (by assumption) ?_) | (simp; done) | (refine Below.size (by assumption)))) (fun hHeld => ?_)
              refine wpAnyH_take (i := 0) (oi := { dst := some 28, op := Op.fieldAddr 27 (Operand.tmp 2) 1, type := 0, pos := "elf.go:207", after := #[], guard := none }) (v := ?_) rfl (by kernel_rfl) (by kernel_rfl) (by kernel_rfl) (fun _ _ _ h => hqD (by decide) (by decide) h) (Or.inl ⟨by rfl, ?_⟩) (by assumption) ?_
              rotate_left; focus (intro w hSw; (try dsimp only at hSw); first | (go_simp; done) | (go_simp; with_reducible rfl))
              try simp only [Act.put, List.setIfInBounds_toArray, List.set_cons_zero, List.set_cons_succ]
              refine wpAnyH_take (i := 1) (oi := { dst := some 29, op := Op.load 25 (Operand.tmp 28), type := 25, pos := "elf.go:207", after := #[{ on := 0, ground := Ground.data }], guard := none }) (v := ?_) rfl (by kernel_rfl) (by kernel_rfl) (by kernel_rfl) (fun _ _ _ h => hqD (by decide) (by decide) h) (Or.inl ⟨by rfl, ?_⟩) (by assumption) ?_
              rotate_left; focus (intro w hSw; (try dsimp only at hSw); first | (go_simp; done) | (go_simp; with_reducible rfl))
              try simp only [Act.put, List.setIfInBounds_toArray, List.set_cons_zero, List.set_cons_succ]
              refine wpAnyH_take (i := 2) (oi := { dst := some 30, op := Op.move (Operand.tmp 0), type := 22, pos := "elf.go:207", after := #[], guard := none }) (v := ?_) rfl (by kernel_rfl) (by kernel_rfl) (by kernel_rfl) (fun _ _ _ h => hqD (by decide) (by decide) h) (Or.inl ⟨by rfl, ?_⟩) (by assumption) ?_
              rotate_left; focus (intro w hSw; (try dsimp only at hSw); first | (go_simp; done) | (go_simp; with_reducible rfl))
              try simp only [Act.put, List.setIfInBounds_toArray, List.set_cons_zero, List.set_cons_succ]
              refine wpAnyH_take (i := 3) (oi := { dst := some 31, op := Op.move (Operand.tmp 7), type := 3, pos := "elf.go:207", after := #[], guard := none }) (v := ?_) rfl (by kernel_rfl) (by kernel_rfl) (by kernel_rfl) (fun _ _ _ h => hqD (by decide) (by decide) h) (Or.inl ⟨by rfl, ?_⟩) (by assumption) ?_
              rotate_left; focus (intro w hSw; (try dsimp only at hSw); first | (go_simp; done) | (go_simp; with_reducible rfl))
              try simp only [Act.put, List.setIfInBounds_toArray, List.set_cons_zero, List.set_cons_succ]
              refine wpAnyH_take (i := 4) (oi := { dst := some 32, op := Op.fieldAddr 27 (Operand.tmp 2) 1, type := 0, pos := "elf.go:207", after := #[], guard := none }) (v := ?_) rfl (by kernel_rfl) (by kernel_rfl) (by kernel_rfl) (fun _ _ _ h => hqD (by decide) (by decide) h) (Or.inl ⟨by rfl, ?_⟩) (by assumption) ?_
              rotate_left; focus (intro w hSw; (try dsimp only at hSw); first | (go_simp; done) | (go_simp; with_reducible rfl))
              try simp only [Act.put, List.setIfInBounds_toArray, List.set_cons_zero, List.set_cons_succ]
              refine wpAnyH_take (i := 5) (oi := { dst := some 33, op := Op.load 25 (Operand.tmp 32), type := 25, pos := "elf.go:207", after := #[{ on := 4, ground := Ground.data }], guard := none }) (v := ?_) rfl (by kernel_rfl) (by kernel_rfl) (by kernel_rfl) (fun _ _ _ h => hqD (by decide) (by decide) h) (Or.inl ⟨by rfl, ?_⟩) (by assumption) ?_
              rotate_left; focus (intro w hSw; (try dsimp only at hSw); first | (go_simp; done) | (go_simp; with_reducible rfl))
              try simp only [Act.put, List.setIfInBounds_toArray, List.set_cons_zero, List.set_cons_succ]
              refine wpAnyH_ready (rs := [6]) (by kernel_rfl) (by simp) (AllReadyH.cons (o := { dst := some 34, op := Op.call { callee := Callee.value (Operand.func 30), args := #[Operand.tmp 30, Operand.tmp 31, Operand.tmp 33], argTypes := #[22, 3, 25] }, type := 55, pos := "elf.go:207", after := #[{ on := 2, ground := Ground.data }, { on := 3, ground := Ground.data }, { on := 5, ground := Ground.data }], guard := none }) rfl (fun K hK => ?_) AllReadyH.nil)
              go_simp
              refine (seg_bad g o n c y j l.length cc A L l _ cd HN.out hnc hc h2 (by omega) HL.out (TR7.out.after hHeld.2) (CR7.out.after hHeld.2 g7) rfl HFW.out (HS7.out.keep hHeld.2).at_.2 HEN'.out HCD.out hc0).mono ?_
              rintro e w8 ⟨⟨er, rfl, hc9, her⟩, hb8⟩
              have hb8' := below_undrewS hb8
              exact panic_done (e0 := .int .u64 0) (e1 := .slice A l.length cc) HH.out hcc9 hr.symm her RE7.out.lt (HBW.out.trans ((HB7.out.trans (hb8'.mono (by omega))).mono (by omega))) (RE7.out.after hb8') _ rfl rfl rfl
          · have ht2 : ((ty : Int) == 1) = false := by simp; omega
            go_wp2_with fail
            go_roundw
            case rel => exact ⟨j + 1, _, by omega, by go_num, by rw [run_skip L y j HRN.out (by rw [HTY.out]; exact ht1)]; exact HRN.out, K7.out, by rw [run_skip L y j HRN.out (by rw [HTY.out]; exact ht1), HRL.out]; exact HS7.out, HG7.out⟩
            case measure => simp [intOf]; omega
      · have h9 : j = x := by omega
        subst h9
        have HRD := Lib.hid (show readC L = (if l.length = 0 then (143, 56) else if beginsB l en = false then (146, 24) else (0, 0)) ∧ (readC L = (0, 0) → readE L = en ∧ readS L = l) from readC_end HK.out HX.out HY.out HEN.out HRN.out HRL.out)
        obtain ⟨cc0, -, -⟩ := TR.out.count.cells
        have cc0' : wr.cell? ⟨1, 0, none⟩ = some (.int .i64 56) := cc0
        clear cc0
        by_cases hl0 : l.length = 0
        · have HH := Lib.hid (show readC L = (143, 56) by rw [HRD.out.1, if_pos hl0])
          go_wp2_with fail
          refine (give_yes _ (by first | (simp; done) | (simp; omega) | simp [hl0]) 56 143 (by decide) _).mono ?_
          rintro e w8 ⟨⟨er, rfl, hc9, her⟩, hb8⟩
          exact panic_done (e0 := .int .u64 0) (e1 := .slice A l.length cc) HH.out (by decide) hr.symm her HRE.out.lt (HBW.out.trans (HBR.out.trans (hb8.mono (by omega)))) (HRE.out.after hb8) _ rfl rfl rfl
        · go_wp2_with fail
          refine (give_no _ (by rw [beq_eq_false_iff_ne]; omega) 56 143 _).mono ?_
          rintro e w8 ⟨rfl, rfl⟩
          obtain ⟨d0, d1, d2⟩ := TR.out.entry.cells
          have d0' : wr.cell? ⟨2, 0, none⟩ = some (.int .i64 24) := d0
          have d1' : wr.cell? ⟨2, 1, none⟩ = some (.int .i64 8) := d1
          clear d0 d1
          go_wp2_with fail
          refine (get_fld' en g o n c 24 8 0 L _ HEN.out HL.out (by decide) (by decide) (by have := HN.out; omega) (by have := HN.out; omega) hc CR.out).mono ?_
          rintro e w7 ⟨rfl, hb7⟩
          have HB7 := Lib.hid (HBR.out.trans (hb7.mono (by omega)))
          have r7 : r < w7.heap.size := Nat.lt_of_lt_of_le rwr hb7.size
          have RE7 := Lib.hid (HRE.out.after hb7)
          have HS7 := Lib.hid (HSO.out.keep hb7)
          have T7 := Lib.hid (HT.out.after (by rw [hr]; exact HBW.out.trans HB7.out))
          have u0 := RE7.out.a0
          have u1 := RE7.out.a1
          have u2 := RE7.out.f0
          clear hb7 d0' d1' d2 cc0' v0 v1
          go_wp2_with fail
          have REX := Lib.hid (show RE (w7.setCell ⟨r, 0, none⟩ (.int .u64 (en : Int))) r (.int .u64 (en : Int)) (.slice A l.length cc) by
            obtain ⟨x0, x1, x2, x3, x4, x5, x6⟩ := RE7.out
            constructor <;> simp [go_sem, x0, x1, x2, x3, x4, x5, x6, r7])
          have SX := Lib.hid (HS7.out.far (grown_set w7 ⟨r, 0, none⟩ (.int .u64 (en : Int))) rlW')
          have BX := Lib.hid (show Below r W (w7.setCell ⟨r, 0, none⟩ (.int .u64 (en : Int))) from HB7.out.setCell (Nat.le_refl _) _)
          have TX := Lib.hid (HT.out.after (by rw [hr]; exact HBW.out.trans BX.out))
          have rX : r < (w7.setCell ⟨r, 0, none⟩ (.int .u64 (en : Int))).heap.size := by simpa using r7
          clear u0 u1 u2 RE7 HS7 T7 HB7 r7
          generalize w7.setCell ⟨r, 0, none⟩ (.int .u64 (en : Int)) = WX at *
          have x0 := REX.out.a0
          have x1 := REX.out.a1
          have x3 : WX.cell? ⟨2, 0, none⟩ = some (.int .i64 24) := TX.out.entry.cells.1
          have HSX : Hid (∀ w' : World, Below WX.heap.size WX w' → w'.cell? ⟨r, 0, none⟩ = some (.int .u64 (en : Int)) ∧ w'.cell? ⟨r, 1, none⟩ = some (.slice A l.length cc) ∧ w'.cell? ⟨2, 0, none⟩ = some (.int .i64 24) ∧ Below WX.heap.size WX w') := Lib.hid fun w' hb => by
            obtain ⟨hc, -⟩ := bcell hb
            exact ⟨by rw [hc _ _ rX]; exact x0, by rw [hc _ _ rX]; exact x1, by rw [hc _ _ TX.out.entry.lt]; exact x3, hb⟩
          by_cases hbg : beginsB l en = false
          · have HH := Lib.hid (show readC L = (146, 24) by rw [HRD.out.1, if_neg hl0, if_pos hbg])
            refine wp_region_held_drew (S := (fun w' => w'.cell? ⟨r, 0, none⟩ = some (.int .u64 (en : Int)) ∧ w'.cell? ⟨r, 1, none⟩ = some (.slice A l.length cc) ∧ w'.cell? ⟨2, 0, none⟩ = some (.int .i64 24) ∧ Below WX.heap.size WX w')) (by kernel_rfl) (by (try dsimp only); refine HSX.out _ ?_; repeat' (first | with_reducible assumption | with_reducible exact Below.refl _ _ | exact Nat.le_refl _ | with_reducible refine Below.drew ?_ | with_reducible refine Below.trans ?_ (Below.mono (by assumption) ?_) | (simp; done) | (refine Below.size (by assumption)))) (fun hHeld => ?_)
            refine wpAnyH_take (i := 0) (oi := { dst := some 50, op := Op.load 27 (Operand.tmp 2), type := 27, pos := "elf.go:212", after := #[], guard := none }) (v := ?_) rfl (by kernel_rfl) (by kernel_rfl) (by kernel_rfl) (fun _ _ _ h => hqD (by decide) (by decide) h) (Or.inl ⟨by rfl, ?_⟩) (by assumption) ?_
            rotate_left; focus (intro w hSw; (try dsimp only at hSw); first | (go_simp; done) | (go_simp; with_reducible rfl))
            try simp only [Act.put, List.setIfInBounds_toArray, List.set_cons_zero, List.set_cons_succ]
            refine wpAnyH_take (i := 3) (oi := { dst := some 53, op := Op.fieldAddr 65 (Operand.global 2) 0, type := 0, pos := "elf.go:212", after := #[], guard := none }) (v := ?_) rfl (by kernel_rfl) (by kernel_rfl) (by kernel_rfl) (fun _ _ _ h => hqD (by decide) (by decide) h) (Or.inl ⟨by rfl, ?_⟩) (by assumption) ?_
            rotate_left; focus (intro w hSw; (try dsimp only at hSw); first | (go_simp; done) | (go_simp; with_reducible rfl))
            try simp only [Act.put, List.setIfInBounds_toArray, List.set_cons_zero, List.set_cons_succ]
            refine wpAnyH_take (i := 4) (oi := { dst := some 54, op := Op.load 3 (Operand.tmp 53), type := 3, pos := "elf.go:212", after := #[{ on := 3, ground := Ground.data }], guard := none }) (v := ?_) rfl (by kernel_rfl) (by kernel_rfl) (by kernel_rfl) (fun _ _ _ h => hqD (by decide) (by decide) h) (Or.inl ⟨by rfl, ?_⟩) (by assumption) ?_
            rotate_left; focus (intro w hSw; (try dsimp only at hSw); first | (go_simp; done) | (go_simp; with_reducible rfl))
            try simp only [Act.put, List.setIfInBounds_toArray, List.set_cons_zero, List.set_cons_succ]
            refine wpAnyH_ready (rs := [1]) (by kernel_rfl) (by simp) (AllReadyH.cons (o := { dst := some 51, op := Op.call { callee := Callee.value (Operand.func 32), args := #[Operand.tmp 50], argTypes := #[27] }, type := 4, pos := "elf.go:212", after := #[{ on := 0, ground := Ground.data }], guard := none }) rfl (fun K hK => ?_) AllReadyH.nil)
            go_simp
            refine (begins_any A l.length cc en l _ rfl (by have := HFW.out; omega) be (SX.out.keep hHeld.2.2.2).at_.2 HEN'.out).mono ?_
            rintro e w8 ⟨rfl, hb8⟩
            replace hb8 := chain3 hHeld.2.2.2 hb8
            rw [hbg]
            dsimp only
            refine hK.out _ _ (by (try dsimp only); refine HSX.out _ ?_; repeat' (first | with_reducible assumption | with_reducible exact Below.refl _ _ | exact Nat.le_refl _ | with_reducible refine Below.drew ?_ | with_reducible refine Below.trans ?_ (Below.mono (by assumption) ?_) | (simp; done) | (refine Below.size (by assumption)))) (fun hHeld => ?_)
            clear hK K
            try simp only [Act.put, List.setIfInBounds_toArray, List.set_cons_zero, List.set_cons_succ]
            refine wpAnyH_take (i := 2) (oi := { dst := some 52, op := Op.unOp UnOp.not 4 (Operand.tmp 51), type := 4, pos := "elf.go:212", after := #[{ on := 1, ground := Ground.data }], guard := none }) (v := ?_) rfl (by kernel_rfl) (by kernel_rfl) (by kernel_rfl) (fun _ _ _ h => hqD (by decide) (by decide) h) (Or.inl ⟨by rfl, ?_⟩) (by assumption) ?_
            rotate_left; focus (intro w hSw; (try dsimp only at hSw); first | (go_simp; done) | (go_simp; with_reducible rfl))
            try simp only [Act.put, List.setIfInBounds_toArray, List.set_cons_zero, List.set_cons_succ]
            refine wpAnyH_ready (rs := [5]) (by kernel_rfl) (by simp) (AllReadyH.cons (o := { dst := some 55, op := Op.call { callee := Callee.value (Operand.func 31), args := #[Operand.tmp 52, Operand.tmp 54, Operand.const (Value.int IntKind.i64 146)], argTypes := #[4, 3, 69] }, type := 0, pos := "elf.go:212", after := #[{ on := 2, ground := Ground.data }, { on := 4, ground := Ground.data }, { on := 1, ground := Ground.chain }], guard := none }) rfl (fun K hK => ?_) AllReadyH.nil)
            go_simp
            refine (give_yes _ (by first | rfl | (simp; done)) 24 146 (by decide) _).mono ?_
            rintro e w9 ⟨⟨er, rfl, hc9, her⟩, hb9⟩
            have hb9' := chain3 hHeld.2.2.2 hb9
            exact panic_done (e0 := .int .u64 (en : Int)) (e1 := .slice A l.length cc) HH.out (by decide) hr.symm her (by have := hHeld.2.2.2.size; have := REX.out.lt; omega) (HBW.out.trans (BX.out.trans (hb9'.mono (by omega)))) (REX.out.after hb9') _ rfl rfl rfl
          · have HH := Lib.hid (show readC L = (0, 0) by rw [HRD.out.1, if_neg hl0, if_neg hbg])
            have hbt : beginsB l en = true := by simpa using hbg
            go_region_held3 (fun w' => w'.cell? ⟨r, 0, none⟩ = some (.int .u64 (en : Int)) ∧ w'.cell? ⟨r, 1, none⟩ = some (.slice A l.length cc) ∧ w'.cell? ⟨2, 0, none⟩ = some (.int .i64 24) ∧ Below WX.heap.size WX w') ((refine HSX.out _ ?_; repeat' (first | with_reducible assumption | with_reducible exact Below.refl _ _ | exact Nat.le_refl _ | with_reducible refine Below.drew ?_ | with_reducible refine Below.trans ?_ (Below.mono (by assumption) ?_) | (simp; done) | (refine Below.size (by assumption))))) ((first | (go_at_call 32; (with_reducible refine (begins_any A l.length cc en l _ rfl (by have := HFW.out; omega) be (by exact (SX.out.keep (show Below WX.heap.size WX _ from by repeat' (first | with_reducible assumption | with_reducible exact Below.refl _ _ | with_reducible refine Below.drew ?_))).at_.2) HEN'.out).mono ?_); rintro e w8 ⟨rfl, hb8⟩; replace hb8 := chain3 (W := WX) (by repeat' (first | with_reducible assumption | with_reducible exact Below.refl _ _ | with_reducible refine Below.drew ?_)) hb8; rw [hbt]) | (go_at_call 31; refine (give_no _ (by first | rfl | (simp; done)) 24 146 _).mono ?_; rintro e w9 ⟨rfl, rfl⟩)))
            all_goals
              obtain ⟨s0, s1, s2, s3, s4, s5, s6⟩ := REX.out.after hb8
              have S9 := Lib.hid (SX.out.keep hb8)
              have B9 := Lib.hid (HBW.out.trans (BX.out.trans (hb8.mono (by omega))))
              clear hb8
              go_wp2_with fail
              exact ret_done HH.out (HRD.out.2 HH.out) hr.symm (Nat.le_of_lt rlW') (((S9.out.far (grown_set _ ⟨r, 0, none⟩ _) rlW').far (grown_set _ ⟨r, 1, none⟩ _) rlW').far (grown_set _ ⟨r + 1, 0, none⟩ _) rlW) (((B9.out.setCell (Nat.le_refl _) _).setCell (Nat.le_refl _) _).setCell (Nat.le_succ _) _) (by simp [go_sem, s0, s1, s2]) (by simp [go_sem, s0, s1, s2]) (by simp [go_sem, s0, s1, s2]) _ rfl rfl rfl
  · have HP := panic_done (e0 := .int .u64 0) (e1 := .slice none 0 0) (readC_head rfl hc9) hc9 hr.symm her RW.out.lt (HBW.out.trans (hb2.mono (by omega))) (RW.out.after hb2)
    exact HP _ rfl rfl rfl
end Go.Proofs.YtdklggmeigogcaaDoor
