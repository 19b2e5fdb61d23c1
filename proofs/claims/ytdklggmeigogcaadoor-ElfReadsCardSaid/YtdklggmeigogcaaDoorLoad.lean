/- hartixref7.load. By an AI agent. -/
import Derived.Test.YtdklggmeigogcaaDoorOwn
import Derived.Deep.RegionLaw
set_option linter.unusedVariables false
set_option linter.unusedSimpArgs false
namespace Go.Proofs.YtdklggmeigogcaaDoor
open Go.RowKit
theorem value_sub (x : Nat) (g o n c base a k : Nat) (L : List Nat) (w : World) (hx : fld L (base + a) k = x) (hL : ∀ i, L.getD i 0 < 256) (hn : n = L.length) (hm : n ≤ 1099511627776) (hk : 0 < k) (h8 : k ≤ 8) (h1 : base + a + k ≤ L.length) (h : CellsAt w g o L) :
    Calls Tryd.prog 36 #[.slice (some ⟨g, o, none⟩) n c, .int .i64 ((base : Int) + (a : Int)), .int .i64 (k : Int)] w fun e w' => e = .returned (.int .u64 (x : Int)) ∧ Below w.heap.size w w' := by
  have := value_fld x g o n c (base + a) k L w hx hL hn hm hk h8 h1 h
  simpa using this
theorem next_sum (a b : Nat) (w : World) (h : a + b ≤ 1073741824) : Calls Tryd.prog 48 #[.int .u64 ((a : Int) + (b : Int))] w fun e w' => e = .returned (.int .u64 ((nxt (a + b) : Nat) : Int)) ∧ w' = w := by
  have := next_any (a + b) w h
  simpa using this
def LoadPost (L : List Nat) (at' : Nat) (l : List PSeg) (B : Nat) (v : Value) (w : World) (e : Ending) (w' : World) : Prop :=
  ∃ v', e = .returned (.tuple #[v', .int .i64 (segC L at' l)]) ∧ w.grownBy w' v.ownBlock ∧ ((segC L at' l ≠ 0 ∧ SegsOwn w' B v' l) ∨ (segC L at' l = 0 ∧ SegsOwn w' B v' (l ++ [segOf L at']) ∧ ∃ g cap, v' = .slice (some ⟨g, 0, none⟩) (l.length + 1) cap))
theorem LoadPost.bad {L : List Nat} {at' : Nat} {l : List PSeg} {B : Nat} {v : Value} {w w' : World} {c : Int} (h : segC L at' l = c) (hc : c ≠ 0) (hb : Below w.heap.size w w') (hs : SegsOwn w B v l) {e : Ending} (he : e = .returned (.tuple #[v, .int .i64 c])) : LoadPost L at' l B v w e w' := by
  subst h
  exact ⟨v, he, grown_of_below hb _, .inl ⟨hc, hs.keep hb⟩⟩
theorem qfacts_of {W wr w2 : World} {q j : Nat} {va fl me d : Value} {o : Obj} {xs : List Value} (hk : wr.heap[q]? = some (.cells #[va, fl, d, me] 55)) (ho : wr.ownsRow W.heap.size 5 1 d j xs) (hg : W.grownBy wr (some q)) (hgr : (wr.alloc o).grownBy w2 d.ownBlock) (hq : q < W.heap.size) :
    w2.cell? ⟨q, 2, none⟩ = some d ∧ w2.frozen? ⟨q, 2, none⟩ = false := by
  have hqr : q < wr.heap.size := Nat.lt_of_lt_of_le hq hg.size
  have h : w2.heap[q]? = some (.cells #[va, fl, d, me] 55) := by
    rw [hgr.block q (by simp; omega) (fun e => by have := (ho.lt q e.symm).1; omega), Below.heap_alloc _ _ _ hqr]; exact hk
  exact ⟨by simp [World.cell?, h], by simp [World.frozen?, h]⟩
theorem undrewn {x w2 : World} {r : Option Nat} (hgr : x.drew.grownBy w2 r) : x.grownBy w2 r := ⟨hgr.os, hgr.tape, hgr.output, hgr.size, hgr.block⟩
theorem qfacts_ofd {W wr w2 : World} {q j : Nat} {va fl me d : Value} {o : Obj} {xs : List Value} (hk : wr.heap[q]? = some (.cells #[va, fl, d, me] 55)) (ho : wr.ownsRow W.heap.size 5 1 d j xs) (hg : W.grownBy wr (some q)) (hgr : (wr.alloc o).drew.grownBy w2 d.ownBlock) (hq : q < W.heap.size) :
    w2.cell? ⟨q, 2, none⟩ = some d ∧ w2.frozen? ⟨q, 2, none⟩ = false := qfacts_of (o := o) hk ho hg ⟨hgr.os, hgr.tape, hgr.output, hgr.size, hgr.block⟩ hq
theorem LoadPost.good {L : List Nat} {at' : Nat} {l : List PSeg} {B : Nat} {v v' : Value} {y : PSeg} {w w' : World} (h : segC L at' l = 0) (hy : segOf L at' = y) {g cap : Nat} (hv : v' = .slice (some ⟨g, 0, none⟩) (l.length + 1) cap) (hg : w.grownBy w' v.ownBlock) (hs : SegsOwn w' B v' (l ++ [y])) {e : Ending} (he : e = .returned (.tuple #[v', .int .i64 0]) := by rfl) : LoadPost L at' l B v w e w' := by
  refine ⟨v', by rw [h]; exact he, hg, .inr ⟨h, by rw [hy]; exact hs, g, cap, hv⟩⟩
theorem load_round {W wr w2 : World} {q j g2 cap y : Nat} {va fl me d : Value} {o : Obj} {dd : List Nat} (hk : wr.heap[q]? = some (.cells #[va, fl, d, me] 55)) (ho : wr.ownsRow W.heap.size 5 1 d j ((dd.take j).map byteV)) (hg : W.grownBy wr (some q)) (hgr : (wr.alloc o).grownBy w2 d.ownBlock) (hq : q < W.heap.size)
    (hown : w2.ownsRow W.heap.size 5 1 (.slice (some ⟨g2, 0, none⟩) (j + 1) cap) (j + 1) ((dd.take j ++ [y]).map byteV)) (hsn : dd.take (j + 1) = dd.take j ++ [y]) :
    (w2.setCell ⟨q, 2, none⟩ (.slice (some ⟨g2, 0, none⟩) (j + 1) cap)).heap[q]? = some (.cells #[va, fl, .slice (some ⟨g2, 0, none⟩) (j + 1) cap, me] 55) ∧
    (w2.setCell ⟨q, 2, none⟩ (.slice (some ⟨g2, 0, none⟩) (j + 1) cap)).ownsRow W.heap.size 5 1 (.slice (some ⟨g2, 0, none⟩) (j + 1) cap) (j + 1) ((dd.take (j + 1)).map byteV) ∧
    W.grownBy (w2.setCell ⟨q, 2, none⟩ (.slice (some ⟨g2, 0, none⟩) (j + 1) cap)) (some q) := by
  have hqr : q < wr.heap.size := Nat.lt_of_lt_of_le hq hg.size
  have h : w2.heap[q]? = some (.cells #[va, fl, d, me] 55) := by
    rw [hgr.block q (by simp; omega) (fun e => by have := (ho.lt q e.symm).1; omega), Below.heap_alloc _ _ _ hqr]; exact hk
  refine ⟨heap_setCell_same _ q 2 _ 55 _ h, ?_, ?_⟩
  · rw [hsn]; exact ownsRow_setCell_below hown hq _
  · have hz : wr.heap.size ≤ w2.heap.size := by have := hgr.size; simp at this; omega
    refine ⟨hgr.os.trans hg.os, hgr.tape.trans hg.tape, hgr.output.trans hg.output, by simpa using Nat.le_trans hg.size hz, fun k hk hn => ?_⟩
    rw [Below.heap_setCell _ _ _ _ (by simpa using hn), hgr.block k (by have := hg.size; simp; omega) (fun e => by have := (ho.lt k e.symm).1; omega), Below.heap_alloc _ _ _ (by have := hg.size; omega)]
    exact hg.block k hk hn
set_option maxRecDepth 100000 in
set_option maxHeartbeats 4000000 in
theorem load_any (g o n c at' m cc B : Nat) (A : Option Addr) (L : List Nat) (l : List PSeg) (w : World) (hn : n = L.length) (h2 : n ≤ 262144) (hat : at' + 56 ≤ n) (hL : ∀ i, L.getD i 0 < 256)
    (h : CellsAt w g o L) (hm : m = l.length) (h8 : m ≤ 8) (hS : SegsOwn w B (.slice A m cc) l) (hB : B ≤ w.heap.size) (hE : ∀ i, i < l.length → (l.getD i PSeg.z).va + (l.getD i PSeg.z).mem ≤ 1073741824) :
    Calls Tryd.prog 38 #[.slice (some ⟨g, o, none⟩) n c, .int .i64 (at' : Int), .slice A m cc] w (LoadPost L at' l B (.slice A m cc) w) := by
  obtain ⟨iu, hi⟩ := iU8
  have HI := Lib.hid hi
  clear hi
  have HN := Lib.hid hn
  have HL := Lib.hid hL
  have HC := Lib.hid h
  have HM := Lib.hid hm
  have HS := Lib.hid hS
  have HE := Lib.hid hE
  have hg := World.block_lt_of_cell? _ _ (h 0 (by omega))
  clear hn hL h hm hS hE
  by_cases hm8 : m = 8
  · have HH := Lib.hid (show segC L at' l = 143 by unfold segC; rw [if_pos (by have := HM.out; omega)])
    subst hm8
    go_enter Tryd.func38, Tryd.ntmps38
    go_wp2_with fail
    go_ret2
    exact LoadPost.bad HH.out (by decide) (Below.refl _ _) HS.out rfl
  · obtain ⟨fr, hfr⟩ : ∃ x, fld L (at' + 8) 8 = x := ⟨_, rfl⟩
    obtain ⟨si, hsi⟩ : ∃ x, fld L (at' + 32) 8 = x := ⟨_, rfl⟩
    obtain ⟨va, hva⟩ : ∃ x, fld L (at' + 16) 8 = x := ⟨_, rfl⟩
    obtain ⟨fl, hfl⟩ : ∃ x, fld L (at' + 4) 4 = x := ⟨_, rfl⟩
    obtain ⟨me, hme⟩ : ∃ x, fld L (at' + 40) 8 = x := ⟨_, rfl⟩
    have b1 : fr < 18446744073709551616 := by have h : fld L (at' + 8) 8 < 18446744073709551616 := fld_lt L HL.out _ 8; rw [hfr] at h; exact h
    have b2 : si < 18446744073709551616 := by have h : fld L (at' + 32) 8 < 18446744073709551616 := fld_lt L HL.out _ 8; rw [hsi] at h; exact h
    have b3 : va < 18446744073709551616 := by have h : fld L (at' + 16) 8 < 18446744073709551616 := fld_lt L HL.out _ 8; rw [hva] at h; exact h
    have b4 : fl < 4294967296 := by have h : fld L (at' + 4) 4 < 4294967296 := fld_lt L HL.out _ 4; rw [hfl] at h; exact h
    have b5 : me < 18446744073709551616 := by have h : fld L (at' + 40) 8 < 18446744073709551616 := fld_lt L HL.out _ 8; rw [hme] at h; exact h
    have HF := Lib.hid (And.intro hfr (And.intro hsi (And.intro hva (And.intro hfl hme))))
    clear hfr hsi hva hfl hme
    have hflw : IntKind.u32.wrap (fl : Int) = (fl : Int) := by rw [IntKind.wrap_u32]; omega
    go_enter Tryd.func38, Tryd.ntmps38
    go_wp2_with fail
    refine (value_sub fl g o n c at' 4 4 L _ HF.out.2.2.2.1 HL.out HN.out (by omega) (by decide) (by decide) (by have := HN.out; omega) HC.out).mono ?_
    rintro e w1 ⟨rfl, hb1⟩
    go_wp2_with fail
    refine (value_sub va g o n c at' 16 8 L _ HF.out.2.2.1 HL.out HN.out (by omega) (by decide) (by decide) (by have := HN.out; omega) (HC.out.after hb1 hg)).mono ?_
    rintro e w2 ⟨rfl, hb2⟩
    replace hb2 := chain3 hb1 hb2
    go_wp2_with fail
    refine (value_sub me g o n c at' 40 8 L _ HF.out.2.2.2.2 HL.out HN.out (by omega) (by decide) (by decide) (by have := HN.out; omega) (HC.out.after hb2 hg)).mono ?_
    rintro e w3 ⟨rfl, hb3⟩
    have HB3 := Lib.hid (chain3 hb2 hb3)
    clear hb1 hb2 hb3
    go_wp2_with fail
    have HBW := Lib.hid (HB3.out.alloc HB3.out.size (.cells #[.int .u64 (va : Int), .int .u32 (fl : Int), .slice none 0 0, .int .u64 (me : Int)] 55))
    have HK := Lib.hid (heap_alloc_new w3 (.cells #[.int .u64 (va : Int), .int .u32 (fl : Int), .slice none 0 0, .int .u64 (me : Int)] 55))
    have zq : w3.heap.size < (w3.alloc (.cells #[.int .u64 (va : Int), .int .u32 (fl : Int), .slice none 0 0, .int .u64 (me : Int)] 55)).heap.size := by simp
    have zw := HB3.out.size
    generalize w3.heap.size = q at *
    generalize (w3.alloc (.cells #[.int .u64 (va : Int), .int .u32 (fl : Int), .slice none 0 0, .int .u64 (me : Int)] 55)) = W at *
    clear HB3
    refine (value_sub fr g o n c at' 8 8 L _ HF.out.1 HL.out HN.out (by omega) (by decide) (by decide) (by have := HN.out; omega) (HC.out.after HBW.out hg)).mono ?_
    rintro e w4 ⟨rfl, hb4⟩
    have HB4 := Lib.hid hb4
    clear hb4
    go_wp2_with fail
    refine (value_sub si g o n c at' 32 8 L _ HF.out.2.1 HL.out HN.out (by omega) (by decide) (by decide) (by have := HN.out; omega) (HC.out.after (B := w.heap.size) (HBW.out.trans (HB4.out.mono HBW.out.size)) hg)).mono ?_
    rintro e w5 ⟨rfl, hb5⟩
    have HB5 := Lib.hid (chain3 HB4.out hb5)
    clear hb5 HB4
    have K5 := Lib.hid (show w5.heap[q]? = some _ from (HB5.out.block q zq).trans HK.out)
    have z5 : q < w5.heap.size := Nat.lt_of_lt_of_le zq HB5.out.size
    have q0 : w5.cell? ⟨q, 0, none⟩ = some (.int .u64 (va : Int)) := by have := K5.out; simp [World.cell?, this]
    have q1 : w5.cell? ⟨q, 1, none⟩ = some (.int .u32 (fl : Int)) := by have := K5.out; simp [World.cell?, this]
    have q3 : w5.cell? ⟨q, 3, none⟩ = some (.int .u64 (me : Int)) := by have := K5.out; simp [World.cell?, this]
    go_wp2_with fail
    refine (one_any va fl si me _ b3 b4 b5 b2).mono ?_
    rintro e w6 ⟨rfl, hb6⟩
    have HB6 := Lib.hid (chain3 HB5.out hb6)
    have K6 := Lib.hid (show w6.heap[q]? = some _ from (HB6.out.block q zq).trans HK.out)
    have z6 : q < w6.heap.size := Nat.lt_of_lt_of_le zq HB6.out.size
    clear hb6 HB5 K5 q0 q1 q3 z5
    by_cases hsh : shapedB va fl me si = true
    · rw [hsh]
      by_cases hbad : 0 < si ∧ ¬ (fr ≤ n ∧ fr + si ≤ n)
      · have HH := Lib.hid (show segC L at' l = 140 by
          unfold segC
          rw [HF.out.1, HF.out.2.1, HF.out.2.2.1, HF.out.2.2.2.1, HF.out.2.2.2.2, if_neg (by have := HM.out; omega), if_neg (by rw [hsh]; decide), if_pos (by have := HN.out; omega)])
        have hs1 := hbad.1
        have hlb : liesB fr si n = false := by unfold liesB; rw [decide_eq_false_iff_not]; exact hbad.2
        go_wp2_with fail
        refine (lies_any fr si n _ b1 b2 (by omega)).mono ?_
        rintro e w7 ⟨rfl, rfl⟩
        rw [hlb]
        go_wp2_with fail
        go_ret2
        exact LoadPost.bad HH.out (by decide) (HBW.out.trans (HB6.out.mono HBW.out.size)) HS.out rfl
      · have q0 : w6.cell? ⟨q, 0, none⟩ = some (.int .u64 (va : Int)) := by have := K6.out; simp [World.cell?, this]
        obtain ⟨DD, hDD⟩ : ∃ DD, (List.range si).map (fun i => L.getD (fr + i) 0) = DD := ⟨_, rfl⟩
        have HDL := Lib.hid (show si = DD.length by rw [← hDD]; simp)
        have HDS := Lib.hid ((seg_dat L at' fr si HF.out.1 HF.out.2.1).trans hDD)
        have HDG := Lib.hid (show ∀ j, j < si → DD.getD j 0 = L.getD (fr + j) 0 by intro j hj; rw [← hDD]; simp [hj])
        clear hDD
        rcases Nat.eq_zero_or_pos si with hs0 | hs0
        · have hnp : ¬ 0 < si := by omega
          clear hbad
          rcases Nat.eq_zero_or_pos m with hm0 | hm0
          · have hriT : risesB l va = true := by unfold risesB; rw [decide_eq_true_eq]; left; have := HM.out; omega
            subst hm0
            go_wp2_with fail
            go_quiet (fail)
            go_wp2_with fail
            have HH := Lib.hid (show segC L at' l = 0 by
              unfold segC
              rw [HF.out.1, HF.out.2.1, HF.out.2.2.1, HF.out.2.2.2.1, HF.out.2.2.2.2, if_neg (by have := HM.out; omega), if_neg (by rw [hsh]; decide), if_neg (by have := HN.out; omega), if_neg (by rw [hriT]; decide)])
            go_loopw [11] (fun i wr => ∃ (j : Nat) (d : Value), j ≤ si ∧ i = .int .u64 j ∧ wr.heap[q]? = some (.cells #[.int .u64 (va : Int), .int .u32 (fl : Int), d, .int .u64 (me : Int)] 55) ∧ wr.ownsRow W.heap.size 5 1 d j ((DD.take j).map byteV) ∧ W.grownBy wr (some q)) (fun i _ => si + 1 - (intOf i).toNat)
            case atStart => exact ⟨0, .slice none 0 0, by omega, rfl, K6.out, World.ownsRow_nil _ _ _ _, grown_drewN (grown_of_below HB6.out _) _⟩
            case round =>
              obtain ⟨j, d, hj, rfl, hk, ho, hgw⟩ := hrel
              have HK := Lib.hid hk
              have HO := Lib.hid ho
              have HG := Lib.hid hgw
              have zwr := hgw.size
              have zqr : q < wr.heap.size := by omega
              have x0 : wr.cell? ⟨q, 2, none⟩ = some d := by simp [World.cell?, hk]
              have x1 : wr.frozen? ⟨q, 2, none⟩ = false := by simp [World.frozen?, hk]
              clear hk ho hgw
              by_cases hlt : j < si
              · exact absurd hlt (by omega)
              · have h3 : j = si := by omega
                have x2 : wr.cell? ⟨q, 0, none⟩ = some (.int .u64 (va : Int)) := by simp [World.cell?, HK.out]
                have x3 : wr.cell? ⟨q, 1, none⟩ = some (.int .u32 (fl : Int)) := by simp [World.cell?, HK.out]
                have x4 : wr.cell? ⟨q, 3, none⟩ = some (.int .u64 (me : Int)) := by simp [World.cell?, HK.out]
                have HBL := Lib.hid (HBW.out.grown HG.out HBW.out.size (fun k hk => by simp at hk; omega))
                have HOD := Lib.hid (show OwnB wr W.heap.size d DD by have h := HO.out; unfold OwnB; rw [← HDL.out, ← h3]; rw [List.take_of_length_le (by have := HDL.out; omega)] at h; exact h)
                have HSG := Lib.hid (show segOf L at' = ⟨va, fl, me, DD⟩ by have h1 := HDS.out; have h2 := HF.out.2.2.1; have h3 := HF.out.2.2.2.1; have h4 := HF.out.2.2.2.2; subst h1 h2 h3 h4; rfl)
                have hone : d.oneCell' = true := HOD.out.one
                have zW := HBW.out.size
                have HC4 := cells4 (w := wr.alloc (.cells #[.int .u64 (va : Int), .int .u32 (fl : Int), d, .int .u64 (me : Int)] 55)) (g := wr.heap.size) (s := ⟨va, fl, me, DD⟩) (d := d) (by simp [go_sem]) (by simp [go_sem]) (by simp [go_sem]) (by simp [go_sem])
                have HDN := Lib.hid (fun g hg => Nat.le_trans zW (World.ownsRow.lt HOD.out g hg).1)
                have H4 := Lib.hid HC4
                clear HC4
                have hl9 : l.length ≤ 1000000 := by have := HM.out; omega
                have hb9 : B ≤ wr.heap.size + 1 := by have := HBL.out.size; omega
                go_wp2_with (first | (at_builtin; refine app_seg rfl _ _ rfl B _ l rfl w HS.out wr.heap.size ⟨va, fl, me, DD⟩ d rfl H4.out ((HOD.out.alloc _).mono (by omega)) hone HDN.out (HBL.out.alloc HBL.out.size _) hl9 (by simpa using hb9) ?_) | fail)
                intro v' w9 hso gx cx hv hgr9
                subst hv
                have HSO := Lib.hid hso
                have HG9 := Lib.hid hgr9
                clear hso hgr9
                go_wp2_with fail
                go_ret2
                exact LoadPost.good HH.out HSG.out rfl (show w.grownBy w9 _ from grown_trans (grown_of_below (HBL.out.alloc HBL.out.size _) _) HG9.out) HSO.out
          · obtain ⟨-, hat6⟩ := HS.out.at_
            obtain ⟨ga, oa, D, C, rfl, hga, hca⟩ := (hat6.after (HBW.out.trans (HB6.out.mono HBW.out.size))) (by have := HM.out; omega)
            obtain ⟨c0, -, -, c3, -⟩ := hca (m - 1) (by have := HM.out; omega)
            have hl' := HE.out (m - 1) (by have := HM.out; omega)
            have HR := Lib.hid (show risesB l va = decide (nxt ((l.getD (m - 1) PSeg.z).va + (l.getD (m - 1) PSeg.z).mem) ≤ va) by have := HM.out; unfold risesB; rw [← this, Bool.eq_iff_iff]; simp; omega)
            clear hca hat6
            generalize l.getD (m - 1) PSeg.z = sp at *
            have hz : ((m : Int) == 0) = false := by simp; omega
            have hz0 : (0 : Int) < (m : Int) := by omega
            have hz5 : IntKind.i64.wrap ((m : Int) - 1) = (m : Int) - 1 := IntWalk.i64_in _ (by omega)
            have hz6 : (1 : Int) ≤ (m : Int) := by omega
            have hz3 : (m : Int) - 1 < (m : Int) := by omega
            have hz4 : ((m : Int) - 1).toNat = m - 1 := by omega
            have hsum : IntKind.u64.wrap ((sp.va : Int) + (sp.mem : Int)) = (sp.va : Int) + (sp.mem : Int) := by rw [IntKind.wrap_u64]; omega
            by_cases hri : nxt (sp.va + sp.mem) ≤ va
            · have hlt : ¬ va < nxt (sp.va + sp.mem) := by omega
              have hriT : risesB l va = true := by rw [HR.out]; simpa using hri
              go_wp2_with fail
              go_quiet ((go_at_call 48; exact Calls.quiet_of_same (next_sum _ _ _ hl')))
              go_wp2_with fail
              have HH := Lib.hid (show segC L at' l = 0 by
                unfold segC
                rw [HF.out.1, HF.out.2.1, HF.out.2.2.1, HF.out.2.2.2.1, HF.out.2.2.2.2, if_neg (by have := HM.out; omega), if_neg (by rw [hsh]; decide), if_neg (by have := HN.out; omega), if_neg (by rw [hriT]; decide)])
              go_loopw [11] (fun i wr => ∃ (j : Nat) (d : Value), j ≤ si ∧ i = .int .u64 j ∧ wr.heap[q]? = some (.cells #[.int .u64 (va : Int), .int .u32 (fl : Int), d, .int .u64 (me : Int)] 55) ∧ wr.ownsRow W.heap.size 5 1 d j ((DD.take j).map byteV) ∧ W.grownBy wr (some q)) (fun i _ => si + 1 - (intOf i).toNat)
              case atStart => exact ⟨0, .slice none 0 0, by omega, rfl, K6.out, World.ownsRow_nil _ _ _ _, grown_drewN (grown_of_below HB6.out _) _⟩
              case round =>
                obtain ⟨j, d, hj, rfl, hk, ho, hgw⟩ := hrel
                have HK := Lib.hid hk
                have HO := Lib.hid ho
                have HG := Lib.hid hgw
                have zwr := hgw.size
                have zqr : q < wr.heap.size := by omega
                have x0 : wr.cell? ⟨q, 2, none⟩ = some d := by simp [World.cell?, hk]
                have x1 : wr.frozen? ⟨q, 2, none⟩ = false := by simp [World.frozen?, hk]
                clear hk ho hgw
                by_cases hlt : j < si
                · exact absurd hlt (by omega)
                · have h3 : j = si := by omega
                  have x2 : wr.cell? ⟨q, 0, none⟩ = some (.int .u64 (va : Int)) := by simp [World.cell?, HK.out]
                  have x3 : wr.cell? ⟨q, 1, none⟩ = some (.int .u32 (fl : Int)) := by simp [World.cell?, HK.out]
                  have x4 : wr.cell? ⟨q, 3, none⟩ = some (.int .u64 (me : Int)) := by simp [World.cell?, HK.out]
                  have HBL := Lib.hid (HBW.out.grown HG.out HBW.out.size (fun k hk => by simp at hk; omega))
                  have HOD := Lib.hid (show OwnB wr W.heap.size d DD by have h := HO.out; unfold OwnB; rw [← HDL.out, ← h3]; rw [List.take_of_length_le (by have := HDL.out; omega)] at h; exact h)
                  have HSG := Lib.hid (show segOf L at' = ⟨va, fl, me, DD⟩ by have h1 := HDS.out; have h2 := HF.out.2.2.1; have h3 := HF.out.2.2.2.1; have h4 := HF.out.2.2.2.2; subst h1 h2 h3 h4; rfl)
                  have hone : d.oneCell' = true := HOD.out.one
                  have zW := HBW.out.size
                  have HC4 := cells4 (w := wr.alloc (.cells #[.int .u64 (va : Int), .int .u32 (fl : Int), d, .int .u64 (me : Int)] 55)) (g := wr.heap.size) (s := ⟨va, fl, me, DD⟩) (d := d) (by simp [go_sem]) (by simp [go_sem]) (by simp [go_sem]) (by simp [go_sem])
                  have HDN := Lib.hid (fun g hg => Nat.le_trans zW (World.ownsRow.lt HOD.out g hg).1)
                  have H4 := Lib.hid HC4
                  clear HC4
                  have hl9 : l.length ≤ 1000000 := by have := HM.out; omega
                  have hb9 : B ≤ wr.heap.size + 1 := by have := HBL.out.size; omega
                  go_wp2_with (first | (at_builtin; refine app_seg rfl _ _ rfl B _ l rfl w HS.out wr.heap.size ⟨va, fl, me, DD⟩ d rfl H4.out ((HOD.out.alloc _).mono (by omega)) hone HDN.out (HBL.out.alloc HBL.out.size _) hl9 (by simpa using hb9) ?_) | fail)
                  intro v' w9 hso gx cx hv hgr9
                  subst hv
                  have HSO := Lib.hid hso
                  have HG9 := Lib.hid hgr9
                  clear hso hgr9
                  go_wp2_with fail
                  go_ret2
                  exact LoadPost.good HH.out HSG.out rfl (show w.grownBy w9 _ from grown_trans (grown_of_below (HBL.out.alloc HBL.out.size _) _) HG9.out) HSO.out
            · have hlt : va < nxt (sp.va + sp.mem) := by omega
              have HH := Lib.hid (show segC L at' l = 145 by
                unfold segC
                rw [HF.out.1, HF.out.2.1, HF.out.2.2.1, HF.out.2.2.2.1, HF.out.2.2.2.2, if_neg (by have := HM.out; omega), if_neg (by rw [hsh]; decide), if_neg (by have := HN.out; omega), if_pos (by rw [HR.out]; simpa using hri)])
              go_wp2_with fail
              go_quiet ((go_at_call 48; exact Calls.quiet_of_same (next_sum _ _ _ hl')))
              go_wp2_with fail
              go_ret2
              exact LoadPost.bad HH.out (by decide) (below_drewN (HBW.out.trans (HB6.out.mono HBW.out.size)) _) HS.out rfl
        · obtain ⟨hs1, hs2⟩ : fr ≤ n ∧ fr + si ≤ n := by
            by_cases hx : fr ≤ n ∧ fr + si ≤ n
            · exact hx
            · exact absurd ⟨hs0, hx⟩ hbad
          have hlb : liesB fr si n = true := by unfold liesB; rw [decide_eq_true_eq]; exact ⟨hs1, hs2⟩
          clear hbad
          go_wp2_with fail
          refine (lies_any fr si n _ b1 b2 (by omega)).mono ?_
          rintro e w7 ⟨rfl, rfl⟩
          rw [hlb]
          rcases Nat.eq_zero_or_pos m with hm0 | hm0
          · have hriT : risesB l va = true := by unfold risesB; rw [decide_eq_true_eq]; left; have := HM.out; omega
            subst hm0
            go_wp2_with fail
            go_quiet (fail)
            go_wp2_with fail
            have HH := Lib.hid (show segC L at' l = 0 by
              unfold segC
              rw [HF.out.1, HF.out.2.1, HF.out.2.2.1, HF.out.2.2.2.1, HF.out.2.2.2.2, if_neg (by have := HM.out; omega), if_neg (by rw [hsh]; decide), if_neg (by have := HN.out; omega), if_neg (by rw [hriT]; decide)])
            go_loopw [11] (fun i wr => ∃ (j : Nat) (d : Value), j ≤ si ∧ i = .int .u64 j ∧ wr.heap[q]? = some (.cells #[.int .u64 (va : Int), .int .u32 (fl : Int), d, .int .u64 (me : Int)] 55) ∧ wr.ownsRow W.heap.size 5 1 d j ((DD.take j).map byteV) ∧ W.grownBy wr (some q)) (fun i _ => si + 1 - (intOf i).toNat)
            case atStart => exact ⟨0, .slice none 0 0, by omega, rfl, K6.out, World.ownsRow_nil _ _ _ _, grown_drewN (grown_of_below HB6.out _) _⟩
            case round =>
              obtain ⟨j, d, hj, rfl, hk, ho, hgw⟩ := hrel
              have HK := Lib.hid hk
              have HO := Lib.hid ho
              have HG := Lib.hid hgw
              have zwr := hgw.size
              have zqr : q < wr.heap.size := by omega
              have x0 : wr.cell? ⟨q, 2, none⟩ = some d := by simp [World.cell?, hk]
              have x1 : wr.frozen? ⟨q, 2, none⟩ = false := by simp [World.frozen?, hk]
              clear hk ho hgw
              by_cases hlt : j < si
              · have hsn := Lib.hid (take_snoc_d DD j (by have := HDL.out; omega))
                have hyv : DD.getD j 0 = L.getD (fr + j) 0 := HDG.out j hlt
                have hbnd : fr + si ≤ n := by omega
                have p1 : wr.cell? ⟨g, o + (fr + j), none⟩ = some (.int .u8 ((DD.getD j 0 : Nat) : Int)) := by
                  have h := (HC.out.after HBW.out hg) (fr + j) (by have := HN.out; omega)
                  rw [hyv, HG.out.cell_far _ (by show g < W.heap.size; omega) (by simp; omega)]
                  exact h
                have z1 := World.block_lt_of_cell? _ _ p1
                have hw1 : IntKind.u64.wrap ((fr : Int) + (j : Int)) = (fr : Int) + (j : Int) := by rw [IntKind.wrap_u64]; omega
                have hi1 : (fr : Int) + (j : Int) < (n : Int) := by omega
                have hi0 : (0 : Int) ≤ (fr : Int) + (j : Int) := by omega
                have hi2 : ((fr : Int) + (j : Int)).toNat = fr + j := by omega
                clear hyv
                generalize DD.getD j 0 = y at *
                go_wp2_with fail
                go_region_law (refine step_byte rfl (.tmp 90) (.tmp 97) rfl W.heap.size d j _ (by simp [Act.eval, Act.put]) (HO.out.alloc _) wr.heap.size y (by simp [Act.eval, Act.put]) (by simp [go_sem]) (by omega) (by simp; omega) ?_; intro g2 cap w2 hown hgr hgl; (first | (have HQ := qfacts_of HK.out HO.out HG.out hgr zq) | (have HQ := qfacts_ofd HK.out HO.out HG.out hgr zq)); have y0 := HQ.1; have y1 := HQ.2)
                all_goals
                  go_wp2_with fail
                  go_roundw
                  have HX := Lib.hid (show _ from by first | exact load_round HK.out HO.out HG.out hgr zq hown hsn.out | exact load_round HK.out HO.out HG.out (undrewn hgr) zq hown hsn.out)
                  case rel => exact ⟨j + 1, _, by omega, by go_num, HX.out⟩
                  case measure => simp [intOf]; omega
              · have h3 : j = si := by omega
                have x2 : wr.cell? ⟨q, 0, none⟩ = some (.int .u64 (va : Int)) := by simp [World.cell?, HK.out]
                have x3 : wr.cell? ⟨q, 1, none⟩ = some (.int .u32 (fl : Int)) := by simp [World.cell?, HK.out]
                have x4 : wr.cell? ⟨q, 3, none⟩ = some (.int .u64 (me : Int)) := by simp [World.cell?, HK.out]
                have HBL := Lib.hid (HBW.out.grown HG.out HBW.out.size (fun k hk => by simp at hk; omega))
                have HOD := Lib.hid (show OwnB wr W.heap.size d DD by have h := HO.out; unfold OwnB; rw [← HDL.out, ← h3]; rw [List.take_of_length_le (by have := HDL.out; omega)] at h; exact h)
                have HSG := Lib.hid (show segOf L at' = ⟨va, fl, me, DD⟩ by have h1 := HDS.out; have h2 := HF.out.2.2.1; have h3 := HF.out.2.2.2.1; have h4 := HF.out.2.2.2.2; subst h1 h2 h3 h4; rfl)
                have hone : d.oneCell' = true := HOD.out.one
                have zW := HBW.out.size
                have HC4 := cells4 (w := wr.alloc (.cells #[.int .u64 (va : Int), .int .u32 (fl : Int), d, .int .u64 (me : Int)] 55)) (g := wr.heap.size) (s := ⟨va, fl, me, DD⟩) (d := d) (by simp [go_sem]) (by simp [go_sem]) (by simp [go_sem]) (by simp [go_sem])
                have HDN := Lib.hid (fun g hg => Nat.le_trans zW (World.ownsRow.lt HOD.out g hg).1)
                have H4 := Lib.hid HC4
                clear HC4
                have hl9 : l.length ≤ 1000000 := by have := HM.out; omega
                have hb9 : B ≤ wr.heap.size + 1 := by have := HBL.out.size; omega
                go_wp2_with (first | (at_builtin; refine app_seg rfl _ _ rfl B _ l rfl w HS.out wr.heap.size ⟨va, fl, me, DD⟩ d rfl H4.out ((HOD.out.alloc _).mono (by omega)) hone HDN.out (HBL.out.alloc HBL.out.size _) hl9 (by simpa using hb9) ?_) | fail)
                intro v' w9 hso gx cx hv hgr9
                subst hv
                have HSO := Lib.hid hso
                have HG9 := Lib.hid hgr9
                clear hso hgr9
                go_wp2_with fail
                go_ret2
                exact LoadPost.good HH.out HSG.out rfl (show w.grownBy w9 _ from grown_trans (grown_of_below (HBL.out.alloc HBL.out.size _) _) HG9.out) HSO.out
          · obtain ⟨-, hat6⟩ := HS.out.at_
            obtain ⟨ga, oa, D, C, rfl, hga, hca⟩ := (hat6.after (HBW.out.trans (HB6.out.mono HBW.out.size))) (by have := HM.out; omega)
            obtain ⟨c0, -, -, c3, -⟩ := hca (m - 1) (by have := HM.out; omega)
            have hl' := HE.out (m - 1) (by have := HM.out; omega)
            have HR := Lib.hid (show risesB l va = decide (nxt ((l.getD (m - 1) PSeg.z).va + (l.getD (m - 1) PSeg.z).mem) ≤ va) by have := HM.out; unfold risesB; rw [← this, Bool.eq_iff_iff]; simp; omega)
            clear hca hat6
            generalize l.getD (m - 1) PSeg.z = sp at *
            have hz : ((m : Int) == 0) = false := by simp; omega
            have hz0 : (0 : Int) < (m : Int) := by omega
            have hz5 : IntKind.i64.wrap ((m : Int) - 1) = (m : Int) - 1 := IntWalk.i64_in _ (by omega)
            have hz6 : (1 : Int) ≤ (m : Int) := by omega
            have hz3 : (m : Int) - 1 < (m : Int) := by omega
            have hz4 : ((m : Int) - 1).toNat = m - 1 := by omega
            have hsum : IntKind.u64.wrap ((sp.va : Int) + (sp.mem : Int)) = (sp.va : Int) + (sp.mem : Int) := by rw [IntKind.wrap_u64]; omega
            by_cases hri : nxt (sp.va + sp.mem) ≤ va
            · have hlt : ¬ va < nxt (sp.va + sp.mem) := by omega
              have hriT : risesB l va = true := by rw [HR.out]; simpa using hri
              go_wp2_with fail
              go_quiet ((go_at_call 48; exact Calls.quiet_of_same (next_sum _ _ _ hl')))
              go_wp2_with fail
              have HH := Lib.hid (show segC L at' l = 0 by
                unfold segC
                rw [HF.out.1, HF.out.2.1, HF.out.2.2.1, HF.out.2.2.2.1, HF.out.2.2.2.2, if_neg (by have := HM.out; omega), if_neg (by rw [hsh]; decide), if_neg (by have := HN.out; omega), if_neg (by rw [hriT]; decide)])
              go_loopw [11] (fun i wr => ∃ (j : Nat) (d : Value), j ≤ si ∧ i = .int .u64 j ∧ wr.heap[q]? = some (.cells #[.int .u64 (va : Int), .int .u32 (fl : Int), d, .int .u64 (me : Int)] 55) ∧ wr.ownsRow W.heap.size 5 1 d j ((DD.take j).map byteV) ∧ W.grownBy wr (some q)) (fun i _ => si + 1 - (intOf i).toNat)
              case atStart => exact ⟨0, .slice none 0 0, by omega, rfl, K6.out, World.ownsRow_nil _ _ _ _, grown_drewN (grown_of_below HB6.out _) _⟩
              case round =>
                obtain ⟨j, d, hj, rfl, hk, ho, hgw⟩ := hrel
                have HK := Lib.hid hk
                have HO := Lib.hid ho
                have HG := Lib.hid hgw
                have zwr := hgw.size
                have zqr : q < wr.heap.size := by omega
                have x0 : wr.cell? ⟨q, 2, none⟩ = some d := by simp [World.cell?, hk]
                have x1 : wr.frozen? ⟨q, 2, none⟩ = false := by simp [World.frozen?, hk]
                clear hk ho hgw
                by_cases hlt : j < si
                · have hsn := Lib.hid (take_snoc_d DD j (by have := HDL.out; omega))
                  have hyv : DD.getD j 0 = L.getD (fr + j) 0 := HDG.out j hlt
                  have hbnd : fr + si ≤ n := by omega
                  have p1 : wr.cell? ⟨g, o + (fr + j), none⟩ = some (.int .u8 ((DD.getD j 0 : Nat) : Int)) := by
                    have h := (HC.out.after HBW.out hg) (fr + j) (by have := HN.out; omega)
                    rw [hyv, HG.out.cell_far _ (by show g < W.heap.size; omega) (by simp; omega)]
                    exact h
                  have z1 := World.block_lt_of_cell? _ _ p1
                  have hw1 : IntKind.u64.wrap ((fr : Int) + (j : Int)) = (fr : Int) + (j : Int) := by rw [IntKind.wrap_u64]; omega
                  have hi1 : (fr : Int) + (j : Int) < (n : Int) := by omega
                  have hi0 : (0 : Int) ≤ (fr : Int) + (j : Int) := by omega
                  have hi2 : ((fr : Int) + (j : Int)).toNat = fr + j := by omega
                  clear hyv
                  generalize DD.getD j 0 = y at *
                  go_wp2_with fail
                  go_region_law (refine step_byte rfl (.tmp 90) (.tmp 97) rfl W.heap.size d j _ (by simp [Act.eval, Act.put]) (HO.out.alloc _) wr.heap.size y (by simp [Act.eval, Act.put]) (by simp [go_sem]) (by omega) (by simp; omega) ?_; intro g2 cap w2 hown hgr hgl; (first | (have HQ := qfacts_of HK.out HO.out HG.out hgr zq) | (have HQ := qfacts_ofd HK.out HO.out HG.out hgr zq)); have y0 := HQ.1; have y1 := HQ.2)
                  all_goals
                    go_wp2_with fail
                    go_roundw
                    have HX := Lib.hid (show _ from by first | exact load_round HK.out HO.out HG.out hgr zq hown hsn.out | exact load_round HK.out HO.out HG.out (undrewn hgr) zq hown hsn.out)
                    case rel => exact ⟨j + 1, _, by omega, by go_num, HX.out⟩
                    case measure => simp [intOf]; omega
                · have h3 : j = si := by omega
                  have x2 : wr.cell? ⟨q, 0, none⟩ = some (.int .u64 (va : Int)) := by simp [World.cell?, HK.out]
                  have x3 : wr.cell? ⟨q, 1, none⟩ = some (.int .u32 (fl : Int)) := by simp [World.cell?, HK.out]
                  have x4 : wr.cell? ⟨q, 3, none⟩ = some (.int .u64 (me : Int)) := by simp [World.cell?, HK.out]
                  have HBL := Lib.hid (HBW.out.grown HG.out HBW.out.size (fun k hk => by simp at hk; omega))
                  have HOD := Lib.hid (show OwnB wr W.heap.size d DD by have h := HO.out; unfold OwnB; rw [← HDL.out, ← h3]; rw [List.take_of_length_le (by have := HDL.out; omega)] at h; exact h)
                  have HSG := Lib.hid (show segOf L at' = ⟨va, fl, me, DD⟩ by have h1 := HDS.out; have h2 := HF.out.2.2.1; have h3 := HF.out.2.2.2.1; have h4 := HF.out.2.2.2.2; subst h1 h2 h3 h4; rfl)
                  have hone : d.oneCell' = true := HOD.out.one
                  have zW := HBW.out.size
                  have HC4 := cells4 (w := wr.alloc (.cells #[.int .u64 (va : Int), .int .u32 (fl : Int), d, .int .u64 (me : Int)] 55)) (g := wr.heap.size) (s := ⟨va, fl, me, DD⟩) (d := d) (by simp [go_sem]) (by simp [go_sem]) (by simp [go_sem]) (by simp [go_sem])
                  have HDN := Lib.hid (fun g hg => Nat.le_trans zW (World.ownsRow.lt HOD.out g hg).1)
                  have H4 := Lib.hid HC4
                  clear HC4
                  have hl9 : l.length ≤ 1000000 := by have := HM.out; omega
                  have hb9 : B ≤ wr.heap.size + 1 := by have := HBL.out.size; omega
                  go_wp2_with (first | (at_builtin; refine app_seg rfl _ _ rfl B _ l rfl w HS.out wr.heap.size ⟨va, fl, me, DD⟩ d rfl H4.out ((HOD.out.alloc _).mono (by omega)) hone HDN.out (HBL.out.alloc HBL.out.size _) hl9 (by simpa using hb9) ?_) | fail)
                  intro v' w9 hso gx cx hv hgr9
                  subst hv
                  have HSO := Lib.hid hso
                  have HG9 := Lib.hid hgr9
                  clear hso hgr9
                  go_wp2_with fail
                  go_ret2
                  exact LoadPost.good HH.out HSG.out rfl (show w.grownBy w9 _ from grown_trans (grown_of_below (HBL.out.alloc HBL.out.size _) _) HG9.out) HSO.out
            · have hlt : va < nxt (sp.va + sp.mem) := by omega
              have HH := Lib.hid (show segC L at' l = 145 by
                unfold segC
                rw [HF.out.1, HF.out.2.1, HF.out.2.2.1, HF.out.2.2.2.1, HF.out.2.2.2.2, if_neg (by have := HM.out; omega), if_neg (by rw [hsh]; decide), if_neg (by have := HN.out; omega), if_pos (by rw [HR.out]; simpa using hri)])
              go_wp2_with fail
              go_quiet ((go_at_call 48; exact Calls.quiet_of_same (next_sum _ _ _ hl')))
              go_wp2_with fail
              go_ret2
              exact LoadPost.bad HH.out (by decide) (below_drewN (HBW.out.trans (HB6.out.mono HBW.out.size)) _) HS.out rfl
    · have HH := Lib.hid (show segC L at' l = 144 by
        unfold segC
        rw [HF.out.1, HF.out.2.1, HF.out.2.2.1, HF.out.2.2.2.1, HF.out.2.2.2.2, if_neg (by have := HM.out; omega), if_pos (by simpa using hsh)])
      rw [show shapedB va fl me si = false by simpa using hsh]
      go_wp2_with fail
      go_ret2
      exact LoadPost.bad HH.out (by decide) (HBW.out.trans (HB6.out.mono HBW.out.size)) HS.out rfl
end Go.Proofs.YtdklggmeigogcaaDoor
