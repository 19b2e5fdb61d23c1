/- The law InsnRegs: the registers that are read and written. By an AI agent. -/
import Derived.Test.YtgjiojcdifjhcaaDoorRefReads
import Derived.Test.YtgjiojcdifjhcaaDoorFree
set_option linter.unusedVariables false
set_option linter.unusedSimpArgs false
namespace Go.Proofs.YtgjiojcdifjhcaaDoor
open Go.RowKit
theorem chain3 {w3 W w4 : World} (h : Below w3.heap.size w3 W) (hb : Below W.heap.size W w4) : Below w3.heap.size w3 w4 := h.trans (hb.mono h.size)
theorem row_after {B : Nat} {w w' : World} {v : Value} {n : Nat} {xs : List Value} (h : w.ownsRow B 3 1 v n xs) (hb : Below w.heap.size w w') : w'.ownsRow B 3 1 v n xs := by
  refine ⟨h.1, ?_⟩
  rcases h.2 with h1 | ⟨g, c, cur, h1, h2, h3, h4⟩
  · exact .inl h1
  · have hg : g < w.heap.size := (h.lt g (by rw [h1]; rfl)).2
    exact .inr ⟨g, c, cur, h1, h2, by rw [hb.block g hg]; exact h3, h4⟩
theorem row_form {B : Nat} {w : World} {v : Value} {n : Nat} {xs : List Value} (h : w.ownsRow B 3 1 v n xs) : ∃ A g c, v = .slice A n c ∧ (0 < n → A = some ⟨g, 0, none⟩) := by
  rcases h.2 with ⟨h1, h2⟩ | ⟨g, c, cur, h1, _⟩
  · exact ⟨none, 0, 0, by rw [h1, h2], by omega⟩
  · exact ⟨_, g, c, h1, fun _ => rfl⟩
theorem rdR_len (a0 a1 a2 a3 a4 a5 : Int) : (rdR a0 a1 a2 a3 a4 a5).length ≤ 2 := by
  unfold rdR rdL; split
  · split
    · split <;> simp
    · split
      · split <;> simp
      · split <;> simp
  · simp
def twoR (Aa Ab : Option Addr) (ga gb ca cb n : Nat) : Rows2 := ⟨fun i => if i = 0 then Aa else Ab, fun i => if i = 0 then ga else gb, fun _ => n, fun i => if i = 0 then ca else cb⟩
theorem two_rows {w : World} {B B2 n ga gb ca cb : Nat} {Aa Ab : Option Addr} {xs : List Value} (ho : w.ownsRow B 3 1 (.slice Aa n ca) n xs) (hp : w.ownsRow B2 3 1 (.slice Ab n cb) n xs)
    (hl : ∀ g, (Value.slice Aa n ca).ownBlock = some g → g < B2) (hB : B ≤ B2) (hw : B ≤ w.heap.size) (hn : n ≤ 2) (ha : 0 < n → Aa = some ⟨ga, 0, none⟩) (hb : 0 < n → Ab = some ⟨gb, 0, none⟩) :
    St (twoR Aa Ab ga gb ca cb n) B w.heap.size (w.alloc (.cells #[.slice Aa n ca, .slice Ab n cb] 97)) (fun _ => xs) (w.alloc (.cells #[.slice Aa n ca, .slice Ab n cb] 97)) := by
  have two : ∀ i, i < 2 → i = 0 ∨ i = 1 := fun i hi => by omega
  refine ⟨Below.refl _ _, by simp; omega, ?_, ?_, ?_, ?_, ?_, fun _ _ => hn⟩
  · intro i hi
    rcases two i hi with rfl | rfl <;> simp [go_sem, twoR]
  · intro i hi
    rcases two i hi with rfl | rfl
    · exact ho.alloc _
    · exact (hp.mono hB).alloc _
  · intro i j hi hj hne
    rcases two i hi with rfl | rfl <;> rcases two j hj with rfl | rfl
    · omega
    · rcases e1 : (Value.slice Aa n ca).ownBlock with _ | g
      · exact .inl e1
      · right
        intro e
        have h1 := hl g e1
        have h2 := (hp.lt g (e.symm.trans e1)).1
        omega
    · rcases e1 : (Value.slice Ab n cb).ownBlock with _ | g
      · exact .inl e1
      · right
        intro e
        have h1 := (hp.lt g e1).1
        have h2 := hl g (e.symm.trans e1)
        omega
    · omega
  · intro i hi e
    rcases two i hi with rfl | rfl
    · have := (ho.lt _ e).2; omega
    · have := (hp.lt _ e).2; omega
  · intro i hi h0
    rcases two i hi with rfl | rfl
    · exact ha h0
    · exact hb h0
def Par (w : World) (b : Nat) (a0 a1 a2 a3 a4 a5 : Int) : Prop := w.cell? ⟨b, 0, none⟩ = some (.int .i64 a0) ∧ w.cell? ⟨b, 1, none⟩ = some (.int .i64 a1) ∧ w.cell? ⟨b, 2, none⟩ = some (.int .i64 a2) ∧ w.cell? ⟨b, 3, none⟩ = some (.int .i64 a3) ∧ w.cell? ⟨b, 4, none⟩ = some (.int .i64 a4) ∧ w.cell? ⟨b, 5, none⟩ = some (.int .i64 a5) ∧ b < w.heap.size
theorem Par.over {w w' : World} {b B : Nat} {a0 a1 a2 a3 a4 a5 : Int} (h : Par w b a0 a1 a2 a3 a4 a5) (hb : Below B w w') (hB : b < B) : Par w' b a0 a1 a2 a3 a4 a5 := by
  have e : ∀ j, w'.cell? ⟨b, j, none⟩ = w.cell? ⟨b, j, none⟩ := fun j => hb.cell hB
  obtain ⟨h0, h1, h2, h3, h4, h5, h6⟩ := h
  exact ⟨by rw [e]; exact h0, by rw [e]; exact h1, by rw [e]; exact h2, by rw [e]; exact h3, by rw [e]; exact h4, by rw [e]; exact h5, Nat.lt_of_lt_of_le h6 hb.size⟩
theorem Par.alloc (w : World) (a0 a1 a2 a3 a4 a5 : Int) : Par (w.alloc (.cells #[.int .i64 a0, .int .i64 a1, .int .i64 a2, .int .i64 a3, .int .i64 a4, .int .i64 a5] 46)) w.heap.size a0 a1 a2 a3 a4 a5 := by
  refine ⟨?_, ?_, ?_, ?_, ?_, ?_, ?_⟩ <;> simp [go_sem]
theorem TabsW.over {w w' : World} (h : TabsW w) {B : Nat} (hb : Below B w w') (hB : 3 < B) : TabsW w' := by
  refine ⟨?_, ?_⟩
  · rw [hb.block 0 (by omega)]; exact h.shapes
  · rw [hb.block 3 (by omega)]; exact h.words
set_option maxRecDepth 100000 in
set_option maxHeartbeats 8000000 in
theorem regs_law (a0 a1 a2 a3 a4 a5 : Int) (w : World) (ht : TabsW w) : Calls Tryd.prog 27 #[.agg #[.int .i64 a0, .int .i64 a1, .int .i64 a2, .int .i64 a3, .int .i64 a4, .int .i64 a5]] w (TruePost w) := by
  have B := Lib.hid ((Below.refl w.heap.size w).alloc (Nat.le_refl _) (.cells #[.int .i64 a0, .int .i64 a1, .int .i64 a2, .int .i64 a3, .int .i64 a4, .int .i64 a5] 46))
  have T := Lib.hid (ht.after ((Below.refl w.heap.size w).alloc (Nat.le_refl _) (.cells #[.int .i64 a0, .int .i64 a1, .int .i64 a2, .int .i64 a3, .int .i64 a4, .int .i64 a5] 46)))
  have P0 := Lib.hid (Par.alloc w a0 a1 a2 a3 a4 a5)
  have hXL : ∀ X, X = rdR a0 a1 a2 a3 a4 a5 → X.length ≤ 2 := fun X e => by rw [e]; exact rdR_len a0 a1 a2 a3 a4 a5
  clear ht
  go_enter Tryd.func27, Tryd.ntmps27
  go_wp2_with fail
  refine (refreads_any a0 a1 a2 a3 a4 a5 _).mono ?_
  rintro e w1 ⟨v0, rfl, ho0, hb1⟩
  have hz1 := hb1.size
  simp only [World.size_alloc] at hz1
  replace B := Lib.hid (B.out.trans (hb1.mono B.out.size))
  replace T := Lib.hid (T.out.after hb1)
  have P1 := Lib.hid (P0.out.over hb1 P0.out.2.2.2.2.2.2)
  clear hb1 P0
  have z1 : w.heap.size < w1.heap.size := by omega
  clear hz1
  have O0 := Lib.hid ho0
  clear ho0
  obtain ⟨f0, f1, f2, f3, f4, f5, f6⟩ := P1.out
  go_wp2_with fail
  refine (reads_any a0 a1 a2 a3 a4 a5 _ T.out).mono ?_
  rintro e w2 ⟨va, rfl, hoa, hb2⟩
  clear f0 f1 f2 f3 f4 f5 f6
  have C2 := Lib.hid hb2
  have OA := Lib.hid hoa
  clear hb2 hoa
  obtain ⟨f0, f1, f2, f3, f4, f5, f6⟩ := P1.out.over C2.out z1
  have T2 := Lib.hid (T.out.after C2.out)
  go_wp2_with fail
  refine (reads_any a0 a1 a2 a3 a4 a5 _ T2.out).mono ?_
  rintro e w3 ⟨vb, rfl, hob, hb3⟩
  clear f0 f1 f2 f3 f4 f5 f6 T2
  have C3 := Lib.hid (C2.out.trans (hb3.mono C2.out.size))
  have OA3 := Lib.hid (row_after OA.out hb3)
  have LA := Lib.hid (fun g e => (OA.out.lt g e).2)
  have OB3 := Lib.hid hob
  have z12 : w1.heap.size ≤ w2.heap.size := C2.out.size
  clear hb3 hob OA C2
  have O3 := Lib.hid (row_after O0.out C3.out)
  have XL := Lib.hid (hXL _ rfl)
  clear hXL
  generalize hX : rdR a0 a1 a2 a3 a4 a5 = X at *
  go_wp2_with fail
  have T3 := Lib.hid (T.out.after C3.out)
  have P3 := Lib.hid (P1.out.over C3.out z1)
  have HSof : Hid (∀ w' : World, Below w3.heap.size w3 w' → w'.cell? ⟨w.heap.size, 0, none⟩ = some (.int .i64 a0) ∧ w'.cell? ⟨w.heap.size, 1, none⟩ = some (.int .i64 a1) ∧ w'.cell? ⟨w.heap.size, 2, none⟩ = some (.int .i64 a2) ∧ w'.cell? ⟨w.heap.size, 3, none⟩ = some (.int .i64 a3) ∧ w'.cell? ⟨w.heap.size, 4, none⟩ = some (.int .i64 a4) ∧ w'.cell? ⟨w.heap.size, 5, none⟩ = some (.int .i64 a5) ∧ w.heap.size < w'.heap.size ∧ Below w3.heap.size w3 w') := Lib.hid fun w' hb => by
    obtain ⟨f0, f1, f2, f3, f4, f5, f6⟩ := P3.out.over hb P3.out.2.2.2.2.2.2
    exact ⟨f0, f1, f2, f3, f4, f5, f6, hb⟩
  go_region_held3 (fun w' => w'.cell? ⟨w.heap.size, 0, none⟩ = some (.int .i64 a0) ∧ w'.cell? ⟨w.heap.size, 1, none⟩ = some (.int .i64 a1) ∧ w'.cell? ⟨w.heap.size, 2, none⟩ = some (.int .i64 a2) ∧ w'.cell? ⟨w.heap.size, 3, none⟩ = some (.int .i64 a3) ∧ w'.cell? ⟨w.heap.size, 4, none⟩ = some (.int .i64 a4) ∧ w'.cell? ⟨w.heap.size, 5, none⟩ = some (.int .i64 a5) ∧ w.heap.size < w'.heap.size ∧ Below w3.heap.size w3 w') ((refine HSof.out _ ?_; repeat' (first | with_reducible exact Below.refl _ _ | with_reducible assumption | exact Nat.le_refl _ | with_reducible refine Below.drew ?_ | with_reducible refine Below.trans ?_ (Below.mono (by assumption) ?_) | (simp; done) | (refine Below.size (by assumption))))) ((first | (go_at_call 49; refine (ints_same (n := 0) (xs := X) (by first | exact row_after OA3.out (by repeat' (first | with_reducible exact Below.refl _ _ | with_reducible assumption | exact Nat.le_refl _ | with_reducible refine Below.drew ?_ | with_reducible refine Below.trans ?_ (Below.mono (by assumption) ?_) | (simp; done) | (refine Below.size (by assumption)))) | exact row_after OB3.out (by repeat' (first | with_reducible exact Below.refl _ _ | with_reducible assumption | exact Nat.le_refl _ | with_reducible refine Below.drew ?_ | with_reducible refine Below.trans ?_ (Below.mono (by assumption) ?_) | (simp; done) | (refine Below.size (by assumption))))) (row_after O3.out (by repeat' (first | with_reducible exact Below.refl _ _ | with_reducible assumption | exact Nat.le_refl _ | with_reducible refine Below.drew ?_ | with_reducible refine Below.trans ?_ (Below.mono (by assumption) ?_) | (simp; done) | (refine Below.size (by assumption))))) (by have := XL.out; omega)).mono ?_; rintro e w4 ⟨rfl, hb⟩; replace hb := chain3 (w3 := w3) (by repeat' (first | with_reducible exact Below.refl _ _ | with_reducible assumption | with_reducible refine Below.drew ?_ | with_reducible refine below_drewN ?_ _)) hb) | (go_at_call 50; refine (writes_any a0 a1 a2 a3 a4 a5 _ (T3.out.after (by repeat' (first | with_reducible exact Below.refl _ _ | with_reducible assumption | exact Nat.le_refl _ | with_reducible refine Below.drew ?_ | with_reducible refine Below.trans ?_ (Below.mono (by assumption) ?_) | (simp; done) | (refine Below.size (by assumption)))))).mono ?_; rintro e w4 ⟨rfl, hb⟩; replace hb := chain3 (w3 := w3) (by repeat' (first | with_reducible exact Below.refl _ _ | with_reducible assumption | with_reducible refine Below.drew ?_ | with_reducible refine below_drewN ?_ _)) hb) | (go_at_call 51; refine (refwrites_any a0 a1 a2 a3 a4 a5 _).mono ?_; rintro e w4 ⟨rfl, hb⟩; replace hb := chain3 (w3 := w3) (by repeat' (first | with_reducible exact Below.refl _ _ | with_reducible assumption | with_reducible refine Below.drew ?_ | with_reducible refine below_drewN ?_ _)) hb)))
  all_goals
    have C4 := Lib.hid (C3.out.trans (hb.mono C3.out.size))
    have OA4 := Lib.hid (row_after OA3.out hb)
    have OB4 := Lib.hid (row_after OB3.out hb)
    clear HSof P3 T3 O3
    obtain ⟨Aa, ga, ca, rfl, haa⟩ := row_form OA4.out
    obtain ⟨Ab, gb, cb, rfl, hab⟩ := row_form OB4.out
    have z4 : w1.heap.size ≤ w4.heap.size := C4.out.size
    clear OA3 OB3 C3
    go_wp2_with fail
    refine (free_two (twoR Aa Ab ga gb ca cb X.length) w1.heap.size w4.heap.size _ _ (two_rows OA4.out OB4.out LA.out z12 z4 XL.out haa hab)).mono ?_
    rintro e w5 ⟨rfl, hb5⟩
    have C5 := Lib.hid ((C4.out.alloc z4 _).trans hb5)
    clear hb5 OA4 OB4 LA C4
    obtain ⟨f0, f1, f2, f3, f4, f5, f6⟩ := P1.out.over C5.out z1
    have T5 := Lib.hid (T.out.after C5.out)
    go_wp2_with fail
    refine (reads_any a0 a1 a2 a3 a4 a5 _ T5.out).mono ?_
    rintro e w6 ⟨vc, rfl, hoc, hb6⟩
    rw [hX] at hoc
    have C6 := Lib.hid (C5.out.trans (hb6.mono C5.out.size))
    clear hb6 f0 f1 f2 f3 f4 f5 f6 T5
    have OC := Lib.hid hoc
    clear hoc
    go_wp2_with fail
    refine (ints_same (n := 0) OC.out (row_after O0.out C6.out) (by have := XL.out; omega)).mono ?_
    rintro e w7 ⟨rfl, hb7⟩
    go_wp2_with fail
    go_ret
    exact ⟨rfl, B.out.trans ((C6.out.trans (hb7.mono C6.out.size)).mono B.out.size)⟩
set_option maxRecDepth 100000 in
set_option maxHeartbeats 4000000 in
theorem law_regs (b off len cap : Nat) (X : Nat → Nat → Int) (w : World) (ht : TabsW w) (hl : len ≤ 9223372036854775807) (hc : RowsAt w b off len X) :
    Calls Tryd.prog 8 #[.slice (some ⟨b, off, none⟩) len cap] w (TruePost w) := by
  have HT := Lib.hid ht
  have HC := Lib.hid hc
  clear ht hc
  go_enter Tryd.func8, Tryd.ntmps8
  go_wp2_with fail
  go_loopw [3] (fun i wr => ∃ k : Nat, k ≤ len ∧ k ≤ 400 ∧ i = .int .i64 k ∧ Below w.heap.size w wr) (fun i _ => 400 - (intOf i).toNat)
  case atStart => exact ⟨0, Nat.zero_le _, by omega, rfl, Below.refl _ _⟩
  case round =>
    obtain ⟨k, hk, hk4, rfl, hb⟩ := hrel
    have HB := Lib.hid hb
    have HT1 := Lib.hid (HT.out.after hb)
    have HC1 := Lib.hid (HC.out.after hb)
    clear hb
    by_cases h1 : k < len
    · by_cases h2 : k < 400
      · obtain ⟨q0, q1, q2, q3, q4, q5, q6⟩ := HC1.out.six k h1
        go_wp2_with fail
        refine (regs_law (X k 0) (X k 1) (X k 2) (X k 3) (X k 4) (X k 5) _ HT1.out).mono ?_
        rintro e w1 ⟨rfl, hb1⟩
        have HB1 := Lib.hid hb1
        clear hb1
        go_wp2_with fail
        go_roundw
        case rel => exact ⟨k + 1, by omega, by omega, by go_num, HB.out.trans (HB1.out.mono HB.out.size)⟩
        case measure => simp [intOf]; omega
      · have h3 : k = 400 := by omega
        go_wp2_with fail
        go_ret
        exact ⟨rfl, HB.out⟩
    · have h3 : k = len := by omega
      go_wp2_with fail
      go_ret
      exact ⟨rfl, HB.out⟩
theorem law_regs_nil (a : Option Addr) (cap : Nat) (w : World) : Calls Tryd.prog 8 #[.slice a 0 cap] w (TruePost w) := by
  go_enter Tryd.func8, Tryd.ntmps8
  go_wp2_with fail
  refine wp_loop_rounds 1 ?_
  rw [rounds_succ]
  go_wp2_with fail
  go_ret
  exact ⟨rfl, Below.refl _ _⟩
end Go.Proofs.YtgjiojcdifjhcaaDoor
