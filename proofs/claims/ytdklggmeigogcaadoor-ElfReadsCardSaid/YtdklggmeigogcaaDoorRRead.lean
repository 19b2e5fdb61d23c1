/- hartixref7.Read: the document's, of a file of 64 bytes or more. By an AI agent. -/
import Derived.Test.YtdklggmeigogcaaDoorRRead0
set_option linter.unusedVariables false
set_option linter.unusedSimpArgs false
namespace Go.Proofs.YtdklggmeigogcaaDoor
open Go.RowKit
theorem value_row (x : Nat) (g o n c y j : Nat) (L : List Nat) (w : World) (hx : fld L (y + 56 * j) 4 = x) (hL : ∀ i, L.getD i 0 < 256) (hn : n = L.length) (hm : n ≤ 1099511627776) (h1 : y + 56 * j + 4 ≤ L.length) (h : CellsAt w g o L) :
    Calls Tryd.prog 36 #[.slice (some ⟨g, o, none⟩) n c, .int .i64 ((y : Int) + 56 * (j : Int)), .int .i64 4] w fun e w' => e = .returned (.int .u64 (x : Int)) ∧ Below w.heap.size w w' := by
  have := value_fld x g o n c (y + 56 * j) 4 L w hx hL hn hm (by decide) (by decide) h1 h
  simpa using this
theorem load_row (g o n c y j m cc B : Nat) (A : Option Addr) (L : List Nat) (l : List PSeg) (w : World) (hn : n = L.length) (h2 : n ≤ 262144) (hat : y + 56 * j + 56 ≤ n) (hL : ∀ i, L.getD i 0 < 256)
    (h : CellsAt w g o L) (hm : m = l.length) (h8 : m ≤ 8) (hS : SegsOwn w B (.slice A m cc) l) (hB : B ≤ w.heap.size) (hE : ∀ i, i < l.length → (l.getD i PSeg.z).va + (l.getD i PSeg.z).mem ≤ 1073741824) :
    Calls Tryd.prog 38 #[.slice (some ⟨g, o, none⟩) n c, .int .i64 ((y : Int) + 56 * (j : Int)), .slice A m cc] w (LoadPost L (y + 56 * j) l B (.slice A m cc) w) := by
  have := load_any g o n c (y + 56 * j) m cc B A L l w hn h2 hat hL h hm h8 hS hB hE
  simpa using this
theorem readC_run {L : List Nat} {c p : Int} {x y : Nat} (h : headC L = (0, 0)) (hx : fld L 56 2 = x) (hy : fld L 32 8 = y) (j : Nat) (hj : j ≤ x) (hr : (run L y j).1 = c ∧ (run L y j).2.1 = p) (hc : (c != 0) = true) : readC L = (c, p) := by
  have hc' : c ≠ 0 := by simpa using hc
  have h2 := run_stay L y j (by rw [hr.1]; exact hc') x hj
  unfold readC
  rw [h, if_neg (by simp), hx, hy, h2, hr.1, hr.2, if_pos hc']
theorem readC_end {L : List Nat} {x y en : Nat} {l : List PSeg} (h : headC L = (0, 0)) (hx : fld L 56 2 = x) (hy : fld L 32 8 = y) (he : fld L 24 8 = en) (hr : (run L y x).1 = 0) (hl : (run L y x).2.2 = l) :
    readC L = (if l.length = 0 then (143, 56) else if beginsB l en = false then (146, 24) else (0, 0)) ∧ (readC L = (0, 0) → readE L = en ∧ readS L = l) := by
  refine ⟨?_, fun h0 => ?_⟩
  · unfold readC
    rw [h, if_neg (by simp), hx, hy, hr, if_neg (by simp), hl, he]
  · unfold readE readS
    rw [h0, if_pos rfl, if_pos rfl, hx, hy, hl]; exact ⟨he, rfl⟩
theorem RPost.good {L : List Nat} {w w9 : World} {r Q : Nat} {en c : Nat} {A : Option Addr} {l : List PSeg} (h : readC L = (0, 0)) (hE : readE L = en ∧ readS L = l) (hr : r = w.heap.size) (hQ : r + 1 < Q) (hs : SegsOwn w9 Q (.slice A l.length c) l) (hB : Below r w w9) (a b c' d' : Value) :
    RPost L w (.returned (.tuple #[.agg #[.int .u64 (en : Int), .slice A l.length c], .agg #[.slice none 0 0, .int .i64 0]])) ((((w9.setCell ⟨r, 0, none⟩ a).setCell ⟨r, 1, none⟩ b).setCell ⟨r + 1, 0, none⟩ c').setCell ⟨r + 1, 1, none⟩ d') := by
  subst hr
  refine ⟨A, l.length, c, _, by rw [hE.1], by rw [h]; exact Or.inl ⟨rfl, rfl⟩, ?_, (((hB.setCell (Nat.le_refl _) _).setCell (Nat.le_refl _) _).setCell (Nat.le_succ _) _).setCell (Nat.le_succ _) _⟩
  rw [hE.2]
  exact ((((hs.far (grown_set _ ⟨w.heap.size, 0, none⟩ a) (by show w.heap.size < Q; omega)).far (grown_set _ ⟨w.heap.size, 1, none⟩ b) (by show w.heap.size < Q; omega)).far (grown_set _ ⟨w.heap.size + 1, 0, none⟩ c') hQ).far (grown_set _ ⟨w.heap.size + 1, 1, none⟩ d') hQ).mono (by omega)
theorem lies56 (at' k n : Nat) (w : World) (h1 : at' < 18446744073709551616) (h2 : 56 * k < 18446744073709551616) (h3 : n ≤ 1099511627776) : Calls Tryd.prog 37 #[.int .u64 (at' : Int), .int .u64 (56 * (k : Int)), .int .i64 (n : Int)] w fun e w' => e = .returned (.bool (liesB at' (56 * k) n)) ∧ w' = w := by
  have := lies_any at' (56 * k) n w h1 h2 h3
  simpa using this
set_option maxRecDepth 100000 in
set_option maxHeartbeats 4000000 in
theorem rread_any (g o n c : Nat) (L : List Nat) (w : World) (hn : n = L.length) (h1 : 64 ≤ n) (h2 : n ≤ 262144) (hL : ∀ i, L.getD i 0 < 256) (h : CellsAt w g o L) :
    Calls Tryd.prog 11 #[.slice (some ⟨g, o, none⟩) n c] w (RPost L w) := by
  have HN := Lib.hid hn
  have HL := Lib.hid hL
  have HC := Lib.hid h
  have hg := World.block_lt_of_cell? _ _ (h 0 (by omega))
  clear hn hL h
  have rv0 : RV (((w.alloc (.cells #[.int .u64 0, .slice none 0 0] 27)).alloc (.cells #[.slice none 0 0, .int .i64 0] 34)).alloc (.cells #[.int .u64 0, .slice none 0 0] 27)) w.heap.size := by
    constructor <;> simp [go_sem]
  have HBW := Lib.hid ((((Below.refl w.heap.size w).alloc (Nat.le_refl _) (.cells #[.int .u64 0, .slice none 0 0] 27)).alloc (by simp) (.cells #[.slice none 0 0, .int .i64 0] 34)).alloc (by simp; omega) (.cells #[.int .u64 0, .slice none 0 0] 27))
  have RVW := Lib.hid rv0
  clear rv0
  go_enter Tryd.func11, Tryd.ntmps11
  go_wp2_with fail
  generalize (((w.alloc (.cells #[.int .u64 0, .slice none 0 0] 27)).alloc (.cells #[.slice none 0 0, .int .i64 0] 34)).alloc (.cells #[.int .u64 0, .slice none 0 0] 27)) = W at *
  generalize hr : w.heap.size = r at *
  have HBK := Lib.hid (Below.refl W.heap.size W)
  have hrW : r ≤ W.heap.size := by have := HBW.out.size; omega
  have CW := Lib.hid (HC.out.after (B := r) HBW.out (by omega))
  have gW : g < W.heap.size := by omega
  have RVK := RVW
  refine (headNo_any g o n c L _ HN.out h1 h2 HL.out CW.out).mono ?_
  rintro e w2 ⟨fv, rfl, hfv, hb2⟩
  have HB2 := Lib.hid hb2
  clear hb2
  rcases hfv with ⟨hz, rfl⟩ | ⟨hnz, d, dn, rfl, hdB, hd2, hd3, hd4⟩
  · have HZ := Lib.hid (fixNo_zero L 9 hz)
    clear hz
    go_wp2_with fail
    refine (any_some 0 0 _ _ (Or.inl ⟨rfl, rfl⟩)).mono ?_
    rintro e w3 ⟨rfl, hb3⟩
    have HB3 := Lib.hid (chain3 (HB2.out.alloc HB2.out.size (.cells #[.slice none 0 0, .int .i64 0] 34)) hb3)
    have hzz : (((0 : Int) != 0) = false) := by decide
    rw [hzz]
    have G50 : (w2.alloc (.cells #[.slice none 0 0, .int .i64 0] 34)).heap[w2.heap.size]? = some (.cells #[.slice none 0 0, .int .i64 0] 34) := heap_alloc_new _ _
    have G5 := Lib.hid (show w3.heap[w2.heap.size]? = some (.cells #[.slice none 0 0, .int .i64 0] 34) from (hb3.block _ (by simp)).trans G50)
    have g5lt : w2.heap.size < w3.heap.size := by have := hb3.size; simp at this; omega
    have g5w : W.heap.size ≤ w2.heap.size := HB2.out.size
    generalize w2.heap.size = q5 at *
    clear hb3 G50 HB2
    obtain ⟨x, hx⟩ : ∃ x, fld L 56 2 = x := ⟨_, rfl⟩
    obtain ⟨y, hy⟩ : ∃ y, fld L 32 8 = y := ⟨_, rfl⟩
    obtain ⟨en, hen⟩ : ∃ y, fld L 24 8 = y := ⟨_, rfl⟩
    have bx : x < 65536 := by have h : fld L 56 2 < 65536 := fld_lt L HL.out 56 2; rw [hx] at h; exact h
    have by' : y < 18446744073709551616 := by have h : fld L 32 8 < 18446744073709551616 := fld_lt L HL.out 32 8; rw [hy] at h; exact h
    have be : en < 18446744073709551616 := by have h : fld L 24 8 < 18446744073709551616 := fld_lt L HL.out 24 8; rw [hen] at h; exact h
    have HX := Lib.hid hx
    have HY := Lib.hid hy
    have HEN := Lib.hid hen
    clear hx hy hen
    go_wp2_with fail
    refine (value_fld x g o n c 56 2 L _ HX.out HL.out HN.out (by omega) (by decide) (by decide) (by have := HN.out; omega) (CW.out.after HB3.out gW)).mono ?_
    rintro e w4 ⟨rfl, hbv⟩
    have HB4 := Lib.hid (chain3 HB3.out hbv)
    have G54 := Lib.hid (show w4.heap[q5]? = some _ from (hbv.block _ g5lt).trans G5.out)
    have g5lt4 : q5 < w4.heap.size := Nat.lt_of_lt_of_le g5lt hbv.size
    clear hbv
    by_cases hbad : x < 1 ∨ 64 < x
    · have HH := Lib.hid (show readC L = (143, 56) from readC_head (by
        unfold headC
        rw [HX.out, if_neg (by have := HN.out; omega), if_neg (by have := HN.out; omega), if_neg (by rw [HZ.out]; simp), if_pos hbad]) (by decide))
      rcases hbad with hbad | hbad
      · have hx0 : x = 0 := by omega
        subst hx0
        go_wp2_with fail
        obtain ⟨y0, y1, y2, y3, y4, y5, y6, y7, y8, y9, y10⟩ := RVW.out.after HB4.out
        go_region_with ((go_at_call 33; refine (no_ex 56 143 _).mono ?_; rintro e w9 ⟨d, dn, rfl, hd1, hd2, hd3, hd4, hb9⟩; have hb9' := below_undrewS hb9; obtain ⟨z0, z1, z2, z3, z4, z5, z6, z7, z8, z9, z10⟩ := RVW.out.after (chain3 HB4.out hb9')))
        all_goals
          go_wp2_with fail
          have hdk : r + 1 + 1 < d := Nat.lt_of_lt_of_le y10 hd1
          exact bodyPost_ret (v := .tuple #[.agg #[.int .u64 0, .slice none 0 0], .agg #[.slice (some ⟨d, 0, none⟩) 1 dn, .int .i64 143]]) (by simp [results, Tryd.results11, go_sem, z0, z1, z2, z3, z4, z5, z6, z7, z8, z9, z10]) rfl (RPost.bad HH.out (by decide) hr.symm hd2 hd3 hd4 (by omega) (by omega) (HBW.out.trans ((chain3 HB4.out hb9').mono hrW)) _ _ _ _)
      · have hx1 : ((x : Int) == 0) = false := by simp; omega
        go_wp2_with fail
        obtain ⟨y0, y1, y2, y3, y4, y5, y6, y7, y8, y9, y10⟩ := RVW.out.after HB4.out
        go_region_with ((go_at_call 33; refine (no_ex 56 143 _).mono ?_; rintro e w9 ⟨d, dn, rfl, hd1, hd2, hd3, hd4, hb9⟩; have hb9' := below_undrewS hb9; obtain ⟨z0, z1, z2, z3, z4, z5, z6, z7, z8, z9, z10⟩ := RVW.out.after (chain3 HB4.out hb9')))
        all_goals
          go_wp2_with fail
          have hdk : r + 1 + 1 < d := Nat.lt_of_lt_of_le y10 hd1
          exact bodyPost_ret (v := .tuple #[.agg #[.int .u64 0, .slice none 0 0], .agg #[.slice (some ⟨d, 0, none⟩) 1 dn, .int .i64 143]]) (by simp [results, Tryd.results11, go_sem, z0, z1, z2, z3, z4, z5, z6, z7, z8, z9, z10]) rfl (RPost.bad HH.out (by decide) hr.symm hd2 hd3 hd4 (by omega) (by omega) (HBW.out.trans ((chain3 HB4.out hb9').mono hrW)) _ _ _ _)
    · have e1 : 1 ≤ x := by omega
      have e2 : x ≤ 64 := by omega
      have hx1 : ((x : Int) == 0) = false := by simp; omega
      have hx2 : ¬ 64 < x := by omega
      go_wp2_with fail
      refine (value_fld y g o n c 32 8 L _ HY.out HL.out HN.out (by omega) (by decide) (by decide) (by have := HN.out; omega) (CW.out.after HB4.out gW)).mono ?_
      rintro e w5 ⟨rfl, hbv⟩
      have HB5 := Lib.hid (chain3 HB4.out hbv)
      have G55 := Lib.hid (show w5.heap[q5]? = some _ from (hbv.block _ g5lt4).trans G54.out)
      have g5lt5 : q5 < w5.heap.size := Nat.lt_of_lt_of_le g5lt4 hbv.size
      clear hbv
      go_wp2_with fail
      refine (lies56 y x n _ by' (by omega) (by omega)).mono ?_
      rintro e w5' ⟨rfl, rfl⟩
      by_cases hli : y ≤ n ∧ y + 56 * x ≤ n
      · rw [show liesB y (56 * x) n = true by unfold liesB; rw [decide_eq_true_eq]; exact hli]
        obtain ⟨hl1, hl2⟩ := hli
        go_wp2_with fail
        refine (value_fld en g o n c 24 8 L _ HEN.out HL.out HN.out (by omega) (by decide) (by decide) (by have := HN.out; omega) (CW.out.after HB5.out gW)).mono ?_
        rintro e w6 ⟨rfl, hbv⟩
        have HB6 := Lib.hid (chain3 HB5.out hbv)
        have G56 := Lib.hid (show w6.heap[q5]? = some _ from (hbv.block _ g5lt5).trans G55.out)
        have g5lt6 : q5 < w6.heap.size := Nat.lt_of_lt_of_le g5lt5 hbv.size
        clear hbv
        have HK := Lib.hid (show headC L = (0, 0) by
          unfold headC
          rw [HX.out, HY.out, if_neg (by have := HN.out; omega), if_neg (by have := HN.out; omega), if_neg (by rw [HZ.out]; simp), if_neg hbad, if_neg (by have := HN.out; omega)])
        go_wp2_with fail
        have HB8 := Lib.hid (HB6.out.alloc HB6.out.size (.cells #[.int .u64 (en : Int), .slice none 0 0] 27))
        have K8 := Lib.hid (heap_alloc_new w6 (.cells #[.int .u64 (en : Int), .slice none 0 0] 27))
        have G58 := Lib.hid ((Below.heap_alloc w6 (.cells #[.int .u64 (en : Int), .slice none 0 0] 27) q5 g5lt6).trans G56.out)
        have q8lt : w6.heap.size < (w6.alloc (.cells #[.int .u64 (en : Int), .slice none 0 0] 27)).heap.size := by simp
        have q8W : W.heap.size ≤ w6.heap.size := HB6.out.size
        have rlW : r + 1 + 1 < W.heap.size := RVW.out.lt
        clear HB6 G56
        generalize w6.alloc (.cells #[.int .u64 (en : Int), .slice none 0 0] 27) = W8 at *
        generalize w6.heap.size = q8 at *
        go_loopw [9] (fun i wr => ∃ (j : Nat) (v : Value), j ≤ x ∧ i = .int .i64 j ∧ (run L y j).1 = 0 ∧ wr.heap[q8]? = some (.cells #[.int .u64 (en : Int), v] 27) ∧ SegsOwn wr W8.heap.size v (run L y j).2.2 ∧ W8.grownBy wr (some q8)) (fun i _ => 65 - (intOf i).toNat)
        case atStart => exact ⟨0, .slice none 0 0, by omega, rfl, rfl, K8.out, SegsOwn.nil _ _, World.grownBy.refl _ _⟩
        case round =>
          obtain ⟨j, v, hj, rfl, hrun, hk, hso, hgw⟩ := hrel
          obtain ⟨A, cc, rfl⟩ := hso.form
          obtain ⟨l, hl⟩ : ∃ l, (run L y j).2.2 = l := ⟨_, rfl⟩
          have hEn := run_ends L y j
          have hFw := run_few L y j
          rw [hl] at hso hEn hFw hk
          have HRL := Lib.hid hl
          have HRN := Lib.hid hrun
          have HSO := Lib.hid hso
          have HGW := Lib.hid hgw
          have HKW := Lib.hid hk
          have zwr := hgw.size
          have q8wr : q8 < wr.heap.size := by omega
          have v0 : wr.cell? ⟨q8, 0, none⟩ = some (.int .u64 (en : Int)) := by simp [World.cell?, hk]
          have v1 : wr.cell? ⟨q8, 1, none⟩ = some (.slice A l.length cc) := by simp [World.cell?, hk]
          have HBR := Lib.hid (HB8.out.grown hgw HB8.out.size (fun k hk => by simp at hk; omega))
          have HEN' := Lib.hid hEn
          have HFW := Lib.hid hFw
          clear hrun hso hgw hk hEn hFw hl
          by_cases hlt : j < x
          · obtain ⟨ty, hty⟩ : ∃ t, fld L (y + 56 * j) 4 = t := ⟨_, rfl⟩
            have HTY := Lib.hid hty
            clear hty
            have hx9 : (j : Int) < (x : Int) := by omega
            go_wp2_with fail
            refine (value_row ty g o n c y j L _ HTY.out HL.out HN.out (by omega) (by have := HN.out; omega) (CW.out.after HBR.out gW)).mono ?_
            rintro e w7 ⟨rfl, hbv⟩
            have HB7 := Lib.hid (chain3 HBR.out hbv)
            have HBV := Lib.hid hbv
            have u1 : w7.cell? ⟨q8, 1, none⟩ = some (.slice A l.length cc) := by rw [(bcell hbv).1 _ _ q8wr]; exact v1
            have q8w7 : q8 < w7.heap.size := Nat.lt_of_lt_of_le q8wr hbv.size
            clear hbv
            by_cases ht1 : ty = 1
            · go_wp2_with fail
              refine (load_row g o n c y j l.length cc W8.heap.size A L l _ HN.out h2 (by omega) HL.out (CW.out.after HB7.out gW) rfl HFW.out (HSO.out.keep HBV.out) (Nat.le_trans zwr HBV.out.size) HEN'.out).mono ?_
              rintro e w10 ⟨v', rfl, hg10, hpost⟩
              obtain ⟨cd, hcd⟩ : ∃ t, segC L (y + 56 * j) l = t := ⟨_, rfl⟩
              rw [hcd] at hpost ⊢
              have HCD := Lib.hid hcd
              have hown : ∀ k, (Value.slice A l.length cc).ownBlock = some k → W8.heap.size ≤ k := fun k hk => by
                obtain ⟨ds, _, e2, _⟩ := HSO.out
                exact (e2.lt k hk).1
              have K10 := Lib.hid (show w10.heap[q8]? = some (.cells #[.int .u64 (en : Int), .slice A l.length cc] 27) by
                rw [hg10.block q8 q8w7 (fun e => by have := hown q8 e.symm; omega), HBV.out.block _ q8wr]; exact HKW.out)
              have HB10 := Lib.hid (show Below W.heap.size W w10 from HB7.out.grown hg10 HB7.out.size (fun k hk => Nat.le_trans HB8.out.size (hown k hk)))
              have t1 : w10.cell? ⟨q8, 1, none⟩ = some (.slice A l.length cc) := by simp [World.cell?, K10.out]
              have t2 : w10.frozen? ⟨q8, 1, none⟩ = false := by simp [World.frozen?, K10.out]
              have q8w10 : q8 < w10.heap.size := Nat.lt_of_lt_of_le q8w7 hg10.size
              have HG10 := Lib.hid (show w7.grownBy w10 (Value.slice A l.length cc).ownBlock from hg10)
              have HGX := Lib.hid (show W8.grownBy (w10.setCell ⟨q8, 1, none⟩ v') (some q8) by
                refine grown_trans (w1 := w10) ⟨hg10.os.trans ((grown_of_below HBV.out none).os.trans HGW.out.os), hg10.tape.trans ((grown_of_below HBV.out none).tape.trans HGW.out.tape), hg10.output.trans ((grown_of_below HBV.out none).output.trans HGW.out.output), Nat.le_trans HGW.out.size (Nat.le_trans HBV.out.size hg10.size), fun k hk hn => ?_⟩ (grown_set _ _ _)
                rw [hg10.block k (by have := HGW.out.size; have := HBV.out.size; omega) (fun e => by have := hown k e.symm; omega), HBV.out.block _ (by have := HGW.out.size; omega)]
                exact HGW.out.block k hk hn)
              have KX := Lib.hid (show (w10.setCell ⟨q8, 1, none⟩ v').heap[q8]? = some (.cells #[.int .u64 (en : Int), v'] 27) from heap_setCell_same _ q8 1 _ 27 v' K10.out)
              clear hg10 hcd hown
              rcases hpost with ⟨hne, hso'⟩ | ⟨h0, hso', g', cap', hv'⟩
              · have HRB := Lib.hid (show run L y (j + 1) = (cd, ((y + 56 * j : Nat) : Int), []) by
                  rw [run_bad L y j HRN.out (by rw [HTY.out]; exact ht1) (by rw [HRL.out, HCD.out]; exact hne), HRL.out, HCD.out])
                have hcc9 : (cd != 0) = true := by simpa using hne
                have HH := Lib.hid (show readC L = (cd, (y : Int) + 56 * (j : Int)) from readC_run HK.out HX.out HY.out (j + 1) (by omega) (by rw [HRB.out]; simp) hcc9)
                have HBX := Lib.hid (show Below W.heap.size W (w10.setCell ⟨q8, 1, none⟩ v') from HB10.out.setCell q8W _)
                obtain ⟨A9, c9, rfl⟩ := hso'.form
                clear hne hso'
                go_wp2_with fail
                obtain ⟨y0, y1, y2, y3, y4, y5, y6, y7, y8, y9, y10⟩ := RVW.out.after HBX.out
                go_region_with ((go_at_call 33; refine (no_ex ((y : Int) + 56 * (j : Int)) cd _).mono ?_; rintro e w9 ⟨d, dn, rfl, hd1, hd2, hd3, hd4, hb9⟩; have hb9' := below_undrewS hb9; obtain ⟨z0, z1, z2, z3, z4, z5, z6, z7, z8, z9, z10⟩ := RVW.out.after (chain3 HBX.out hb9')))
                all_goals
                  go_wp2_with fail
                  have hdk : r + 1 + 1 < d := Nat.lt_of_lt_of_le y10 hd1
                  exact bodyPost_ret (v := .tuple #[.agg #[.int .u64 0, .slice none 0 0], .agg #[.slice (some ⟨d, 0, none⟩) 1 dn, .int .i64 cd]]) (by simp [results, Tryd.results11, go_sem, z0, z1, z2, z3, z4, z5, z6, z7, z8, z9, z10]) rfl (RPost.bad HH.out hcc9 hr.symm hd2 hd3 hd4 (by omega) (by omega) (HBW.out.trans ((chain3 HBX.out hb9').mono hrW)) _ _ _ _)
              · have HSX := Lib.hid (show SegsOwn (w10.setCell ⟨q8, 1, none⟩ v') W8.heap.size v' (l ++ [segOf L (y + 56 * j)]) from hso'.far (grown_set _ _ _) q8lt)
                have HRM := Lib.hid (show run L y (j + 1) = (0, 0, l ++ [segOf L (y + 56 * j)]) by
                  rw [run_more L y j HRN.out (by rw [HTY.out]; exact ht1) (by rw [HRL.out, HCD.out]; exact h0), HRL.out])
                subst h0
                subst hv'
                clear hso'
                go_wp2_with fail
                go_roundw
                case rel => exact ⟨j + 1, _, by omega, by go_num, by rw [HRM.out], KX.out, by rw [HRM.out]; exact HSX.out, HGX.out⟩
                case measure => simp [intOf]; omega
            · have ht2 : ((ty : Int) != 1) = true := by simp; omega
              go_wp2_with fail
              go_roundw
              case rel => exact ⟨j + 1, _, by omega, by go_num, by rw [run_skip L y j HRN.out (by rw [HTY.out]; exact ht1)]; exact HRN.out, (HBV.out.block _ q8wr).trans HKW.out, by rw [run_skip L y j HRN.out (by rw [HTY.out]; exact ht1)]; rw [HRL.out]; exact HSO.out.keep HBV.out, grown_trans HGW.out (grown_of_below HBV.out _)⟩
              case measure => simp [intOf]; omega
          · have h9 : j = x := by omega
            subst h9
            have HRD := Lib.hid (show readC L = (if l.length = 0 then (143, 56) else if beginsB l en = false then (146, 24) else (0, 0)) ∧ (readC L = (0, 0) → readE L = en ∧ readS L = l) from readC_end HK.out HX.out HY.out HEN.out HRN.out HRL.out)
            by_cases hl0 : l.length = 0
            · have HH := Lib.hid (show readC L = (143, 56) by rw [HRD.out.1, if_pos hl0])
              have t0 : ((l.length : Int) == 0) = true := by simp [hl0]
              go_wp2_with fail
              obtain ⟨y0, y1, y2, y3, y4, y5, y6, y7, y8, y9, y10⟩ := RVW.out.after HBR.out
              go_region_with ((go_at_call 33; refine (no_ex 56 143 _).mono ?_; rintro e w9 ⟨d, dn, rfl, hd1, hd2, hd3, hd4, hb9⟩; have hb9' := below_undrewS hb9; obtain ⟨z0, z1, z2, z3, z4, z5, z6, z7, z8, z9, z10⟩ := RVW.out.after (chain3 HBR.out hb9')))
              all_goals
                go_wp2_with fail
                have hdk : r + 1 + 1 < d := Nat.lt_of_lt_of_le y10 hd1
                exact bodyPost_ret (v := .tuple #[.agg #[.int .u64 0, .slice none 0 0], .agg #[.slice (some ⟨d, 0, none⟩) 1 dn, .int .i64 143]]) (by simp [results, Tryd.results11, go_sem, z0, z1, z2, z3, z4, z5, z6, z7, z8, z9, z10]) rfl (RPost.bad HH.out (by decide) hr.symm hd2 hd3 hd4 (by omega) (by omega) (HBW.out.trans ((chain3 HBR.out hb9').mono hrW)) _ _ _ _)
            · have t0 : ((l.length : Int) == 0) = false := by rw [beq_eq_false_iff_ne]; omega
              go_wp2_with fail
              refine (inside_any A l.length cc en l _ rfl (by have := HFW.out; omega) be HSO.out.at_.2 HEN'.out).mono ?_
              rintro e w7 ⟨rfl, hb7⟩
              have HB7 := Lib.hid (chain3 HBR.out hb7)
              have K7 := Lib.hid (show w7.heap[q8]? = some (.cells #[.int .u64 (en : Int), .slice A l.length cc] 27) from (hb7.block _ q8wr).trans HKW.out)
              have HS7 := Lib.hid (HSO.out.keep hb7)
              have G7 := Lib.hid (show w7.heap[q5]? = some (.cells #[.slice none 0 0, .int .i64 0] 34) by
                rw [hb7.block _ (by have := HGW.out.size; omega), HGW.out.block _ (by omega) (by simp; omega)]; exact G58.out)
              clear hb7
              by_cases hbg : beginsB l en = false
              · have HH := Lib.hid (show readC L = (146, 24) by rw [HRD.out.1, if_neg hl0, if_pos hbg])
                rw [hbg]
                go_wp2_with fail
                obtain ⟨y0, y1, y2, y3, y4, y5, y6, y7, y8, y9, y10⟩ := RVW.out.after HB7.out
                go_region_with ((go_at_call 33; refine (no_ex 24 146 _).mono ?_; rintro e w9 ⟨d, dn, rfl, hd1, hd2, hd3, hd4, hb9⟩; have hb9' := below_undrewS hb9; obtain ⟨z0, z1, z2, z3, z4, z5, z6, z7, z8, z9, z10⟩ := RVW.out.after (chain3 HB7.out hb9')))
                all_goals
                  go_wp2_with fail
                  have hdk : r + 1 + 1 < d := Nat.lt_of_lt_of_le y10 hd1
                  exact bodyPost_ret (v := .tuple #[.agg #[.int .u64 0, .slice none 0 0], .agg #[.slice (some ⟨d, 0, none⟩) 1 dn, .int .i64 146]]) (by simp [results, Tryd.results11, go_sem, z0, z1, z2, z3, z4, z5, z6, z7, z8, z9, z10]) rfl (RPost.bad HH.out (by decide) hr.symm hd2 hd3 hd4 (by omega) (by omega) (HBW.out.trans ((chain3 HB7.out hb9').mono hrW)) _ _ _ _)
              · have HH := Lib.hid (show readC L = (0, 0) by rw [HRD.out.1, if_neg hl0, if_neg hbg])
                have hbt : beginsB l en = true := by simpa using hbg
                rw [hbt]
                obtain ⟨y0, y1, y2, y3, y4, y5, y6, y7, y8, y9, y10⟩ := RVW.out.after HB7.out
                have m0 : w7.cell? ⟨q8, 0, none⟩ = some (.int .u64 (en : Int)) := by simp [World.cell?, K7.out]
                have m1 : w7.cell? ⟨q8, 1, none⟩ = some (.slice A l.length cc) := by simp [World.cell?, K7.out]
                have m2 : w7.cell? ⟨q5, 0, none⟩ = some (.slice none 0 0) := by simp [World.cell?, G7.out]
                have m3 : w7.cell? ⟨q5, 1, none⟩ = some (.int .i64 0) := by simp [World.cell?, G7.out]
                have n1 : ¬ q5 = r := by omega
                have n2 : ¬ q5 = r + 1 := by omega
                have n3 : ¬ r = q5 := by omega
                have n4 : ¬ r + 1 = q5 := by omega
                have n5 : ¬ q8 = r := by omega
                have n6 : ¬ q8 = r + 1 := by omega
                have n7 : ¬ r = q8 := by omega
                have n8 : ¬ r + 1 = q8 := by omega
                go_wp2_with fail
                go_region
                all_goals
                  go_wp2_with fail
                  exact bodyPost_ret (v := .tuple #[.agg #[.int .u64 (en : Int), .slice A l.length cc], .agg #[.slice none 0 0, .int .i64 0]]) (by simp [results, Tryd.results11, go_sem, y0, y1, y2, y3, y4, y5, y6, y7, y8, y9, y10, m0, m1, m2, m3]) rfl (RPost.good HH.out (HRD.out.2 HH.out) hr.symm (by have := HB8.out.size; omega) HS7.out (HBW.out.trans (HB7.out.mono hrW)) _ _ _ _).drew
      · rw [show liesB y (56 * x) n = false by unfold liesB; rw [decide_eq_false_iff_not]; exact hli]
        have HH := Lib.hid (show readC L = (140, 32) from readC_head (by
          unfold headC
          rw [HX.out, HY.out, if_neg (by have := HN.out; omega), if_neg (by have := HN.out; omega), if_neg (by rw [HZ.out]; simp), if_neg hbad, if_pos (by have := HN.out; omega)]) (by decide))
        go_wp2_with fail
        obtain ⟨y0, y1, y2, y3, y4, y5, y6, y7, y8, y9, y10⟩ := RVW.out.after HB5.out
        go_region_with ((go_at_call 33; refine (no_ex 32 140 _).mono ?_; rintro e w9 ⟨d, dn, rfl, hd1, hd2, hd3, hd4, hb9⟩; have hb9' := below_undrewS hb9; obtain ⟨z0, z1, z2, z3, z4, z5, z6, z7, z8, z9, z10⟩ := RVW.out.after (chain3 HB5.out hb9')))
        all_goals
          go_wp2_with fail
          have hdk : r + 1 + 1 < d := Nat.lt_of_lt_of_le y10 hd1
          exact bodyPost_ret (v := .tuple #[.agg #[.int .u64 0, .slice none 0 0], .agg #[.slice (some ⟨d, 0, none⟩) 1 dn, .int .i64 140]]) (by simp [results, Tryd.results11, go_sem, z0, z1, z2, z3, z4, z5, z6, z7, z8, z9, z10]) rfl (RPost.bad HH.out (by decide) hr.symm hd2 hd3 hd4 (by omega) (by omega) (HBW.out.trans ((chain3 HB5.out hb9').mono hrW)) _ _ _ _)
  · obtain ⟨⟨c9, p9⟩, h9⟩ : ∃ x, fixNo L 9 = x := ⟨_, rfl⟩
    have hnz' : ((fixNo L 9).1 != 0) = true := hnz
    rw [h9] at hnz hd4
    have HH := Lib.hid (show readC L = (c9, p9) by
      have h3 : headC L = fixNo L 9 := by unfold headC; rw [if_neg (by have := HN.out; omega), if_neg (by have := HN.out; omega), if_pos (by simpa using hnz')]
      unfold readC
      rw [h3, if_pos (by simpa using hnz'), h9])
    rw [h9]
    have HCC := Lib.hid hnz
    clear hnz' h9
    go_wp2_with fail
    refine (any_some p9 c9 _ _ (Or.inr ⟨HCC.out, d, dn, rfl, by simp; omega, by simp [go_sem, hd2, hd3], by simp [go_sem, hd2, hd4]⟩)).mono ?_
    rintro e w3 ⟨rfl, hb3⟩
    have HB3 := Lib.hid (chain3 (HB2.out.alloc HB2.out.size (.cells #[.slice (some ⟨d, 0, none⟩) 1 dn, .int .i64 c9] 34)) hb3)
    have hcz : (c9 != 0) = true := HCC.out
    obtain ⟨hcc, -⟩ := bcell hb3
    have t0 : w3.cell? ⟨w2.heap.size, 0, none⟩ = some (.slice (some ⟨d, 0, none⟩) 1 dn) := by rw [hcc _ _ (by simp)]; simp [go_sem]
    have t1 : w3.cell? ⟨w2.heap.size, 1, none⟩ = some (.int .i64 c9) := by rw [hcc _ _ (by simp)]; simp [go_sem]
    have u0 : w3.cell? ⟨d, 0, none⟩ = some (.string elfS) := by rw [hcc _ _ (by simp; omega)]; simp [go_sem, hd2, hd3]
    have u1 : w3.cell? ⟨d, 1, none⟩ = some (.int .i64 p9) := by rw [hcc _ _ (by simp; omega)]; simp [go_sem, hd2, hd4]
    have dlt := World.block_lt_of_cell? _ _ u0
    clear hcc hd3 hd4 hb3
    have g5w : W.heap.size ≤ w2.heap.size := HB2.out.size
    have rlW : r + 1 + 1 < W.heap.size := RVW.out.lt
    generalize w2.heap.size = q5 at *
    have n1 : ¬ q5 = r := by omega
    have n2 : ¬ q5 = r + 1 := by omega
    have n3 : ¬ r = q5 := by omega
    have n4 : ¬ r + 1 = q5 := by omega
    obtain ⟨y0, y1, y2, y3, y4, y5, y6, y7, y8, y9, y10⟩ := RVW.out.after HB3.out
    go_wp2_with fail
    go_region
    all_goals
      go_wp2_with fail
      exact bodyPost_ret (v := .tuple #[.agg #[.int .u64 0, .slice none 0 0], .agg #[.slice (some ⟨d, 0, none⟩) 1 dn, .int .i64 c9]]) (by simp [results, Tryd.results11, go_sem, y0, y1, y2, y3, y4, y5, y6, y7, y8, y9, y10, t0, t1]) rfl (RPost.bad HH.out HCC.out hr.symm dlt u0 u1 (by omega) (by omega) (HBW.out.trans (HB3.out.mono hrW)) _ _ _ _).drew
end Go.Proofs.YtdklggmeigogcaaDoor
