/- insn's decimal, regs and Reg: the registers by either name. By an AI agent; written by wip/gen_regs.py. -/
import Derived.Test.YtgjiojcdifjhcaaDoorOps
import Derived.Laws.BytesArg
import Derived.Laws.Rows
set_option linter.unusedVariables false
set_option linter.unusedSimpArgs false
namespace Go.Proofs.YtgjiojcdifjhcaaDoor
open Go.RowKit Go.WideMaps Go.Maps
theorem dig_conv (n : Int) (w : World) : (convert 113 9 (.slice (some ⟨w.heap.size, 0, none⟩) 1 1)).run Tryd.prog (w.alloc (.cells #[.int .u8 (48 + n)] 5)) = .ok (.string (strOfNums [48 + n])) (w.alloc (.cells #[.int .u8 (48 + n)] 5)) :=
  run_convert_bytes_arg _ 113 5 Tryd.underlying113 Tryd.underlying5 w.heap.size 0 1 1 [48 + n] rfl (fun i hi => by
    have h0 : i = 0 := by omega
    subst h0
    simp [go_sem]) 9 Tryd.underlying9
def DecPost' (s : ByteArray) (w : World) (e : Ending) (w' : World) : Prop := e = .returned (.string s) ∧ Below w.heap.size w w'
theorem strOfNums_one (n : Int) : (strOfNums [n]).size = 1 := by rw [strOfNums_size]; rfl
set_option maxRecDepth 100000 in
theorem decimal_low (n : Nat) (hn : n < 10) (w : World) : Calls Tryd.prog 54 #[.int .i64 n] w (DecPost' (strOfNums [48 + (n : Int)]) w) := by
  have e1 : (0 : Int) ≤ n := by omega
  have e2 : (n : Int) < 10 := by omega
  have e3 : ((n : Int)) % 10 = n := by omega
  have hcv := dig_conv n w
  go_enter Tryd.func54, Tryd.ntmps54
  go_wp2_with fail
  go_ret
  exact ⟨rfl, (Below.refl _ _).alloc (Nat.le_refl _) _⟩
set_option maxRecDepth 100000 in
theorem decimal_high (q r : Nat) (hq : 1 ≤ q) (hq9 : q < 10) (hr : r < 10) (w : World) : Calls Tryd.prog 54 #[.int .i64 (10 * (q : Int) + r)] w (DecPost' (strOfNums [48 + (q : Int)] ++ strOfNums [48 + (r : Int)]) w) := by
  have e1 : (0 : Int) ≤ 10 * (q : Int) + r := by omega
  have e2 : 10 ≤ 10 * (q : Int) + r := by omega
  have e3 : (10 * (q : Int) + r) % 10 = r := by omega
  have e4 : (10 * (q : Int) + r) / 10 = q := by omega
  have e5 : (0 : Int) ≤ r := by omega
  have e6 : (r : Int) < 10 := by omega
  have hcv := dig_conv r w
  have s1 := strOfNums_one (48 + (q : Int))
  have s2 := strOfNums_one (48 + (r : Int))
  go_enter Tryd.func54, Tryd.ntmps54
  go_wp2_with fail
  refine (decimal_low q hq9 _).mono ?_
  rintro e w1 ⟨rfl, hb⟩
  go_wp2_with fail
  go_ret
  exact ⟨rfl, ((Below.refl _ _).alloc (Nat.le_refl _) _).trans (hb.mono (by simp))⟩
/-- The first name of a register, 'x' and its number. -/
def xnL : List (Array UInt8) := [#[120, 48], #[120, 49], #[120, 50], #[120, 51], #[120, 52], #[120, 53], #[120, 54], #[120, 55], #[120, 56], #[120, 57], #[120, 49, 48], #[120, 49, 49], #[120, 49, 50], #[120, 49, 51], #[120, 49, 52], #[120, 49, 53], #[120, 49, 54], #[120, 49, 55], #[120, 49, 56], #[120, 49, 57], #[120, 50, 48], #[120, 50, 49], #[120, 50, 50], #[120, 50, 51], #[120, 50, 52], #[120, 50, 53], #[120, 50, 54], #[120, 50, 55], #[120, 50, 56], #[120, 50, 57], #[120, 51, 48], #[120, 51, 49]]
def xn (r : Nat) : ByteArray := ⟨xnL.getD r #[]⟩
def decS (r : Nat) : ByteArray := if r < 10 then strOfNums [48 + (r : Int)] else strOfNums [48 + ((r / 10 : Nat) : Int)] ++ strOfNums [48 + ((r % 10 : Nat) : Int)]
theorem xn_dec : ∀ r, r < 32 → (⟨#[120]⟩ : ByteArray) ++ decS r = xn r := by decide +kernel
theorem dec_size : ∀ r, r < 32 → (decS r).size ≤ 2 := by decide +kernel
theorem decimal_any (r : Nat) (hr : r < 32) (w : World) : Calls Tryd.prog 54 #[.int .i64 r] w (DecPost' (decS r) w) := by
  by_cases h : r < 10
  · have := decimal_low r h w
    rwa [show decS r = strOfNums [48 + (r : Int)] by unfold decS; rw [if_pos h]]
  · have := decimal_high (r / 10) (r % 10) (by omega) (by omega) (by omega) w
    rw [show (10 * ((r / 10 : Nat) : Int) + ((r % 10 : Nat) : Int)) = (r : Int) by omega] at this
    rwa [show decS r = _ by unfold decS; rw [if_neg h]]
/-- 'insert' of a map's literal, as 'm[k] = v'. -/
theorem wpList_insert_own {H : Type} {P : Program} (w : World) {ops : Array Oper} {rest : List Oper} {o : Oper} {a : Act} {Q : Exit → Act → World → Prop}
    (hg : o.guard = none) (m x v : Operand) (t : TypeId) (hop : o.op = Op.insert t m x v)
    (k e : TypeId) (K : Keyed P k) (ht : P.underlying t = some (.map k e)) (R : Value → Option (DataW H × List MemPlace)) (b n : Nat) (D : DataW H)
    (hm : a.eval m = .map (some b)) (hown : w.ownsMap P k R b n D) (hn : n < maxLen) (key val : Value) (kl : Lit) (hx : a.eval x = key) (hv : a.eval v = val) (hkey : keyOf P k key = some kl)
    (d : DataW H) (ps : List MemPlace) (hval : R val = some (d, ps))
    (hK : ∀ w', w'.ownsMap P k R b (n + 1) (D.put kl d) → w.grownBy w' (some b) → wpList P ops Q rest (a.put o.dst undef) w') :
    wpList P ops Q (o :: rest) a w := by
  refine wpList_plain hg fun K' hK' => ?_
  obtain ⟨w', hrun, r1, r2⟩ := hown.update K ht hn hkey hval
  unfold Oper.wp
  simp [execOp, hop, hm, hx, hv, hrun, Result.andThen]
  exact hK' _ _ (hK w' r1 r2)
theorem own_below {H : Type} {P : Program} {k : TypeId} {R : Value → Option (DataW H × List MemPlace)} {b n : Nat} {D : DataW H} {w w' : World} (h : w.ownsMap P k R b n D) (hb : Below w.heap.size w w') : w'.ownsMap P k R b n D := by
  have hlt := h.lt
  obtain ⟨es, clock, he, F, hs, hD⟩ := h
  exact ⟨es, clock, (hb.block b hlt).trans he, F, hs, hD⟩
def fpS : ByteArray := ⟨#[102, 112]⟩
def intD (n : Int) : DataW Unit := .lit (.int .i64 n)
/-- The map behind k rounds. -/
def regMap : Nat → DataW Unit
  | 0 => (.map [] : DataW Unit).put (keyL fpS) (intD 8)
  | k + 1 => ((regMap k).put (keyL (rg k)) (intD k)).put (keyL (xn k)) (intD k)
def RegsIn (w : World) : Prop := ∃ tt fr, w.heap[2]? = some (.cells rgCells tt fr)
theorem RegsIn.size {w : World} (h : RegsIn w) : 2 < w.heap.size := by
  obtain ⟨_, _, h⟩ := h
  rcases Nat.lt_or_ge 2 w.heap.size with e | e
  · exact e
  · simp [Array.getElem?_eq_none e] at h
theorem RegsIn.after {w w' : World} (h : RegsIn w) (hb : Below w.heap.size w w') : RegsIn w' := by
  have hz := h.size
  unfold RegsIn
  rw [hb.block 2 (by omega)]; exact h
theorem rg_size : ∀ r, r < 32 → (rg r).size ≤ maxLen := fun r h => Nat.le_trans ((show ∀ r, r < 32 → (rg r).size ≤ 100 by decide) r h) (by decide)
theorem xn_size : ∀ r, r < 32 → (xn r).size ≤ maxLen := fun r h => Nat.le_trans ((show ∀ r, r < 32 → (xn r).size ≤ 100 by decide) r h) (by decide)
theorem k32 (k : Nat) (hk : k < 32) : k = 0 ∨ k = 1 ∨ k = 2 ∨ k = 3 ∨ k = 4 ∨ k = 5 ∨ k = 6 ∨ k = 7 ∨ k = 8 ∨ k = 9 ∨ k = 10 ∨ k = 11 ∨ k = 12 ∨ k = 13 ∨ k = 14 ∨ k = 15 ∨ k = 16 ∨ k = 17 ∨ k = 18 ∨ k = 19 ∨ k = 20 ∨ k = 21 ∨ k = 22 ∨ k = 23 ∨ k = 24 ∨ k = 25 ∨ k = 26 ∨ k = 27 ∨ k = 28 ∨ k = 29 ∨ k = 30 ∨ k = 31 := by omega
theorem index_rg (k : Nat) (hk : k < 32) (w : World) : (Instr.index 63 (.agg rgCells) (.int .i64 k)).run Tryd.prog w = .ok (.string (rg k)) w := by
  rcases k32 k hk with rfl | rfl | rfl | rfl | rfl | rfl | rfl | rfl | rfl | rfl | rfl | rfl | rfl | rfl | rfl | rfl | rfl | rfl | rfl | rfl | rfl | rfl | rfl | rfl | rfl | rfl | rfl | rfl | rfl | rfl | rfl | rfl <;> (show _ = _; kernel_rfl)
set_option maxRecDepth 100000 in
set_option maxHeartbeats 4000000 in
theorem regs_any (w : World) (hR : RegsIn w) : Calls Tryd.prog 34 #[] w fun e w' => e = .returned (.map (some w.heap.size)) ∧ w'.ownsMap Tryd.prog 9 (plainElem (H := Unit) Tryd.prog 3) w.heap.size 65 (regMap 32) ∧ Below w.heap.size w w' := by
  have hmm := @run_makeMap Tryd.prog
  have HR := Lib.hid hR
  clear hR
  have hfp : keyOf Tryd.prog 9 (.string ⟨#[102, 112]⟩) = some (keyL fpS) := keyOf_string_mk Tryd.underlying9 (by decide)
  go_enter Tryd.func34, Tryd.ntmps34
  have h0 := World.ownsMap_made (H := Unit) w Tryd.prog 9 (plainElem (H := Unit) Tryd.prog 3)
  go_wp2_with (refine wpList_insert_own _ rfl _ _ _ 66 rfl 9 3 keyed9 Tryd.underlying66 _ w.heap.size 0 _ rfl h0 (by decide) _ _ _ rfl rfl hfp (intD 8) [] (plainElem_int Tryd.underlying3 (by decide)) ?_)
  intro w1 hown1 hgrow1
  have B1 : Hid (Below w.heap.size w w1) := Lib.hid (((Below.refl _ _).alloc (Nat.le_refl _) _).grown hgrow1 (by simp) (fun j hj => by cases hj; exact Nat.le_refl _))
  clear h0 hfp
  obtain ⟨tt, fr, hblk⟩ := HR.out.after B1.out
  go_wp2_with (refine wpList_load_row rfl 63 _ rfl 2 rfl tt _ fr _ hblk Tryd.underlying63 rfl (by kernel_rfl) ?_)
  clear hblk
  have IX := Lib.hid index_rg
  go_loopw [7] (fun i wr => ∃ k : Nat, k ≤ 32 ∧ i = .int .i64 k ∧ wr.ownsMap Tryd.prog 9 (plainElem (H := Unit) Tryd.prog 3) w.heap.size (1 + 2 * k) (regMap k) ∧ Below w.heap.size w wr) (fun i _ => 32 - (intOf i).toNat)
  case atStart => exact ⟨0, Nat.zero_le _, rfl, hown1, B1.out⟩
  case round =>
    obtain ⟨k, hk, rfl, hown, hnx⟩ := hrel
    have HB := Lib.hid hnx
    clear hnx hown1
    by_cases h : k < 32
    · have e1 : (k : Int) < 32 := by omega
      have ix := IX.out k h
      have hkey : keyOf Tryd.prog 9 (.string (Go.Proofs.YtgjiojcdifjhcaaDoor.rg k)) = some (keyL (Go.Proofs.YtgjiojcdifjhcaaDoor.rg k)) := keyOf_string_mk Tryd.underlying9 (rg_size k h)
      have hkx : keyOf Tryd.prog 9 (.string (xn k)) = some (keyL (xn k)) := keyOf_string_mk Tryd.underlying9 (xn_size k h)
      have HKX := Lib.hid hkx
      have HX := Lib.hid (xn_dec k h)
      have HD := Lib.hid (dec_size k h)
      clear hkx
      go_wp2_with (first
        | (at_mapUpdate; refine wpList_mapUpdate_own _ rfl _ _ _ 66 rfl 9 3 keyed9 Tryd.underlying66 _ w.heap.size (1 + 2 * k) _ rfl hown (by unfold maxLen; omega) _ _ _ rfl rfl hkey (intD k) [] (plainElem_int Tryd.underlying3 (WalkArith.wf_i64 (by omega))) ?_))
      intro w2 hown2 hgrow2
      have B2 := Lib.hid (HB.out.grown hgrow2 HB.out.size (fun j hj => by cases hj; exact Nat.le_refl _))
      clear hown hkey hgrow2 ix
      go_wp2_with fail
      refine (decimal_any k h _).mono ?_
      rintro e w3 ⟨rfl, hb3⟩
      have hown3 := own_below hown2 hb3
      have B3 := Lib.hid (B2.out.trans (hb3.mono B2.out.size))
      clear hown2 hb3
      have hx := HX.out
      have hd := HD.out
      have hkx := HKX.out
      go_wp2_with (first
        | (at_mapUpdate; refine wpList_mapUpdate_own _ rfl _ _ _ 66 rfl 9 3 keyed9 Tryd.underlying66 _ w.heap.size (1 + 2 * k + 1) _ rfl hown3 (by unfold maxLen; omega) _ _ _ rfl rfl hkx (intD k) [] (plainElem_int Tryd.underlying3 (WalkArith.wf_i64 (by omega))) ?_))
      intro w4 hown4 hgrow4
      have B4 := Lib.hid (B3.out.grown hgrow4 B3.out.size (fun j hj => by cases hj; exact Nat.le_refl _))
      clear hown3 hkx hgrow4 hx
      go_wp2_with fail
      go_roundw
      case rel => exact ⟨k + 1, by omega, by go_num, hown4, B4.out⟩
      case measure => simp [intOf]; omega
    · have : k = 32 := by omega
      subst this
      go_wp2
      go_ret
      exact ⟨rfl, hown, HB.out⟩
theorem kd (s t : ByteArray) (h : s ≠ t) : keyL s ≠ keyL t := fun e => h (keyL_inj e)
theorem ba_ne {a b : Array UInt8} (h : a ≠ b) : (⟨a⟩ : ByteArray) ≠ ⟨b⟩ := fun e => h (ByteArray.mk.inj e)
theorem rg_inj : ∀ p, p < 32 → ∀ q, q < 32 → p = q ∨ rgL.getD p #[] ≠ rgL.getD q #[] := by decide +kernel
theorem xn_inj : ∀ p, p < 32 → ∀ q, q < 32 → p = q ∨ xnL.getD p #[] ≠ xnL.getD q #[] := by decide +kernel
theorem rg_xn : ∀ p, p < 32 → ∀ q, q < 32 → rgL.getD p #[] ≠ xnL.getD q #[] := by decide +kernel
theorem rg_fp : ∀ p, p < 32 → rgL.getD p #[] ≠ #[102, 112] := by decide +kernel
theorem xn_fp : ∀ p, p < 32 → xnL.getD p #[] ≠ #[102, 112] := by decide +kernel
abbrev rgn (r : Nat) : ByteArray := Go.Proofs.YtgjiojcdifjhcaaDoor.rg r
theorem regMap_isMap : ∀ k, IsMap (regMap k)
  | 0 => IsMap.put isMap_empty _ _
  | k + 1 => IsMap.put (IsMap.put (regMap_isMap k) _ _) _ _
def At (D : DataW Unit) (s : ByteArray) (n : Int) : Prop := has D (keyL s) = true ∧ D.atKey (keyL s) (.lit (.int .i64 0)) = .lit (.int .i64 n)
theorem At.other {D : DataW Unit} {s t : ByteArray} {n : Int} (h : At D s n) (hne : s ≠ t) (d : DataW Unit) : At (D.put (keyL t) d) s n :=
  ⟨by rw [has_put_other (kd _ _ hne)]; exact h.1, by rw [atKey_put_other (kd _ _ hne)]; exact h.2⟩
theorem At.same {D : DataW Unit} (hD : IsMap D) (s : ByteArray) (n : Int) : At (D.put (keyL s) (intD n)) s n :=
  ⟨has_put_same hD (isKey _) _, by rw [atKey_put_same hD (isKey _)]; rfl⟩
theorem at_fp : ∀ k, k ≤ 32 → At (regMap k) fpS 8
  | 0, _ => At.same isMap_empty _ _
  | k + 1, h => ((at_fp k (by omega)).other (ba_ne (Ne.symm (rg_fp k (by omega)))) _).other (ba_ne (Ne.symm (xn_fp k (by omega)))) _
theorem at_rg (p : Nat) : ∀ k, k ≤ 32 → p < k → At (regMap k) (rgn p) p
  | 0, _, h => absurd h (by omega)
  | k + 1, hk, hp => by
    by_cases e : p = k
    · subst e
      exact (At.same (regMap_isMap p) _ _).other (ba_ne (rg_xn p (by omega) p (by omega))) _
    · exact ((at_rg p k (by omega) (by omega)).other (ba_ne ((rg_inj p (by omega) k (by omega)).resolve_left e)) _).other (ba_ne (rg_xn p (by omega) k (by omega))) _
theorem at_xn (p : Nat) : ∀ k, k ≤ 32 → p < k → At (regMap k) (xn p) p
  | 0, _, h => absurd h (by omega)
  | k + 1, hk, hp => by
    by_cases e : p = k
    · subst e
      exact At.same (IsMap.put (regMap_isMap p) _ _) _ _
    · exact ((at_xn p k (by omega) (by omega)).other (ba_ne (Ne.symm (rg_xn k (by omega) p (by omega)))) _).other (ba_ne ((xn_inj p (by omega) k (by omega)).resolve_left e)) _
theorem at_none (s : ByteArray) (hf : s ≠ fpS) : ∀ k, (∀ p, p < k → rgn p ≠ s ∧ xn p ≠ s) → has (regMap k) (keyL s) = false ∧ (regMap k).atKey (keyL s) (.lit (.int .i64 0)) = .lit (.int .i64 0)
  | 0, _ => ⟨by rw [regMap, has_put_other (kd _ _ hf)]; rfl, by rw [regMap, atKey_put_other (kd _ _ hf)]; rfl⟩
  | k + 1, h => by
    obtain ⟨h1, h2⟩ := at_none s hf k (fun p hp => h p (by omega))
    obtain ⟨n1, n2⟩ := h k (by omega)
    exact ⟨by rw [regMap, has_put_other (kd _ _ (Ne.symm n2)), has_put_other (kd _ _ (Ne.symm n1))]; exact h1, by rw [regMap, atKey_put_other (kd _ _ (Ne.symm n2)), atKey_put_other (kd _ _ (Ne.symm n1))]; exact h2⟩
/-- What Reg answers: the register and nil, or 0 and the refusal c at 0. -/
def RegPost (n c : Int) (w : World) (e : Ending) (w' : World) : Prop := ∃ er, e = .returned (.tuple #[.int .i64 n, er]) ∧ ErrIs er 0 c w.heap.size w' ∧ Below w.heap.size w w'
set_option maxRecDepth 100000 in
theorem reg_is (s : ByteArray) (hs : s.size ≤ maxLen) (n : Int) (h : At (regMap 32) s n) (w : World) (hR : RegsIn w) : Calls Tryd.prog 18 #[.string s] w (RegPost n 0 w) := by
  have hkey := keyOf_string_mk Tryd.underlying9 hs
  have HO := Lib.hid (regs_any w hR)
  have HA := Lib.hid h.1
  have HB := Lib.hid h.2
  clear hR h
  go_enter Tryd.func18, Tryd.ntmps18
  go_wp2_with fail
  refine HO.out.mono ?_
  rintro e w1 ⟨rfl, hown, hb⟩
  go_wp2_with (first | (at_lookup; refine wpList_lookup_own_ok_int _ rfl _ _ 66 rfl 9 3 .i64 keyed9 Tryd.underlying66 Tryd.underlying3 (zero3 _) w.heap.size 65 (regMap 32) rfl hown _ _ rfl hkey ?_))
  intro c hat hwc
  have hcn : c = n := by
    have h : (DataW.lit (Lit.int .i64 c) : DataW Unit) = .lit (.int .i64 n) := by
      rw [← HB.out]; exact hat.symm
    injection h with h
    injection h
  subst hcn
  rw [show has (regMap 32) (Lit.string s.data.toList) = true from HA.out]
  clear hat hown hkey
  go_wp2_with fail
  go_ret2
  exact ⟨_, rfl, ErrIs.nil _ _, hb⟩
set_option maxRecDepth 100000 in
theorem reg_none (s : ByteArray) (hs : s.size ≤ maxLen) (hf : s ≠ fpS) (h : ∀ p, p < 32 → rgn p ≠ s ∧ xn p ≠ s) (w : World) (hR : RegsIn w) : Calls Tryd.prog 18 #[.string s] w (RegPost 0 24 w) := by
  have hkey := keyOf_string_mk Tryd.underlying9 hs
  have HO := Lib.hid (regs_any w hR)
  obtain ⟨h1, h2⟩ := at_none s hf 32 h
  have HA := Lib.hid h1
  clear hR h h1 h2 hf
  go_enter Tryd.func18, Tryd.ntmps18
  go_wp2_with fail
  refine HO.out.mono ?_
  rintro e w1 ⟨rfl, hown, hb⟩
  go_wp2_with (first | (at_lookup; refine wpList_lookup_own_ok_int _ rfl _ _ 66 rfl 9 3 .i64 keyed9 Tryd.underlying66 Tryd.underlying3 (zero3 _) w.heap.size 65 (regMap 32) rfl hown _ _ rfl hkey ?_))
  intro c hat hwc
  rw [show has (regMap 32) (Lit.string s.data.toList) = false from HA.out]
  clear hat hown hkey
  go_wp2_with fail
  refine (refuse_any 0 24 _).mono ?_
  rintro e w8 ⟨rfl, rfl⟩
  go_wp2_with fail
  go_ret2
  exact ⟨_, rfl, ErrIs.made 0 24 rfl _ _ hb.size, hb.alloc hb.size _⟩
end Go.Proofs.YtgjiojcdifjhcaaDoor
