/- elf's tables in memory; elf.head. By an AI agent. -/
import Derived.Test.YtdklggmeigogcaaDoorSpec
import Derived.Laws.Rows
import Derived.Deep.RegionHeld3
set_option linter.unusedVariables false
set_option linter.unusedSimpArgs false
namespace Go.Proofs.YtdklggmeigogcaaDoor
open Go.RowKit
def FieldAt (w : World) (g at' k : Nat) : Prop := ∃ tt fr, w.heap[g]? = some (.cells #[.int .i64 (at' : Int), .int .i64 (k : Int), .int .u64 0] tt fr)
def fixCells : Array Value := #[.int .i64 0, .int .i64 4, .int .u64 1179403647, .int .i64 4, .int .i64 1, .int .u64 2, .int .i64 5, .int .i64 1, .int .u64 1, .int .i64 6, .int .i64 1, .int .u64 1, .int .i64 16, .int .i64 2, .int .u64 2, .int .i64 18, .int .i64 2, .int .u64 243, .int .i64 20, .int .i64 4, .int .u64 1, .int .i64 52, .int .i64 2, .int .u64 64, .int .i64 54, .int .i64 2, .int .u64 56]
theorem FieldAt.after {w w' : World} {g a k B : Nat} (h : FieldAt w g a k) (hb : Below B w w') (hg : g < B) : FieldAt w' g a k := by
  obtain ⟨tt, fr, h⟩ := h
  exact ⟨tt, fr, by rw [hb.block g hg]; exact h⟩
theorem FieldAt.lt {w : World} {g a k : Nat} (h : FieldAt w g a k) : g < w.heap.size := by
  obtain ⟨tt, fr, h⟩ := h
  rcases Nat.lt_or_ge g w.heap.size with e | e
  · exact e
  · simp [Array.getElem?_eq_none e] at h
theorem FieldAt.cells {w : World} {g a k : Nat} (h : FieldAt w g a k) : w.cell? ⟨g, 0, none⟩ = some (.int .i64 (a : Int)) ∧ w.cell? ⟨g, 1, none⟩ = some (.int .i64 (k : Int)) ∧ w.cell? ⟨g, 2, none⟩ = some (.int .u64 0) := by
  obtain ⟨tt, fr, h⟩ := h
  simp [World.cell?, h]
/-- The tables that reading takes. -/
structure TabR (w : World) : Prop where
  fixed : ∃ tt fr, w.heap[3]? = some (.cells fixCells tt fr)
  entry : FieldAt w 2 24 8
  heads : FieldAt w 4 32 8
  count : FieldAt w 1 56 2
  type : FieldAt w 0 0 4
  flags : FieldAt w 5 4 4
  file : FieldAt w 6 8 8
  va : FieldAt w 7 16 8
  size' : FieldAt w 9 32 8
  mem : FieldAt w 10 40 8
theorem TabR.fixlt {w : World} (h : TabR w) : 3 < w.heap.size := by
  obtain ⟨tt, fr, h⟩ := h.fixed
  rcases Nat.lt_or_ge 3 w.heap.size with e | e
  · exact e
  · simp [Array.getElem?_eq_none e] at h
theorem TabR.after {w w' : World} (h : TabR w) (hb : Below w.heap.size w w') : TabR w' := by
  refine ⟨?_, h.entry.after hb h.entry.lt, h.heads.after hb h.heads.lt, h.count.after hb h.count.lt, h.type.after hb h.type.lt, h.flags.after hb h.flags.lt, h.file.after hb h.file.lt, h.va.after hb h.va.lt, h.size'.after hb h.size'.lt, h.mem.after hb h.mem.lt⟩
  rw [hb.block _ h.fixlt]; exact h.fixed
def fixV (j : Nat) : Value := .agg #[.int .i64 ((fixT.getD j (0, 0, 0)).1 : Int), .int .i64 ((fixT.getD j (0, 0, 0)).2.1 : Int), .int .u64 ((fixT.getD j (0, 0, 0)).2.2 : Int)]
theorem index_fix (k : Nat) (hk : k < 9) (w : World) : (Instr.index 83 (.agg fixCells) (.int .i64 k)).run Tryd.prog w = .ok (fixV k) w := by
  have h : k = 0 ∨ k = 1 ∨ k = 2 ∨ k = 3 ∨ k = 4 ∨ k = 5 ∨ k = 6 ∨ k = 7 ∨ k = 8 := by omega
  rcases h with rfl | rfl | rfl | rfl | rfl | rfl | rfl | rfl | rfl <;> (show _ = _; kernel_rfl)
def HeadPost (L : List Nat) (w : World) (e : Ending) (w' : World) : Prop :=
  ((headC L).1 = 0 ∧ e = .returned (.tuple #[.int .i64 (fld L 32 8 : Int), .int .i64 (fld L 56 2 : Int)]) ∨ (headC L).1 ≠ 0 ∧ Refused (headC L).2 (headC L).1 w.heap.size e w') ∧ Below w.heap.size w w'
theorem HeadPost.bad {L : List Nat} {c p : Int} {w w' : World} {e : Ending} (h : headC L = (c, p)) {B : Nat} (hr : Refused p c B e w') (hB : w.heap.size ≤ B) (hb : Below w.heap.size w w') : HeadPost L w e w' := by
  obtain ⟨er, h1, h2, h3⟩ := hr
  refine ⟨Or.inr ⟨by rw [h]; simpa using h2, ?_⟩, hb⟩
  rw [h]
  exact ⟨er, h1, h2, h3.mono hB⟩
theorem head_small (A : Option Addr) (n c : Nat) (L : List Nat) (w : World) (hn : n = L.length) (hm : n ≤ 140737488351232) (hs : 262144 < n ∨ n < 64) :
    Calls Tryd.prog 28 #[.slice A n c] w (HeadPost L w) := by
  rcases hs with hs | hs
  · have H := Lib.hid (show headC L = (147, 262144) by unfold headC; rw [if_pos (by omega)])
    clear hn
    go_enter Tryd.func28, Tryd.ntmps28
    go_wp2_with fail
    refine (give_yes _ (by simp; omega) 262144 147 (by decide) _).mono ?_
    rintro e w1 ⟨⟨er, rfl, hc, her⟩, hb⟩
    go_wp2_with fail
    exact ⟨rfl, HeadPost.bad H.out ⟨_, rfl, hc, her⟩ (Nat.le_refl _) hb⟩
  · have H := Lib.hid (show headC L = (140, (n : Int)) by unfold headC; rw [if_neg (by omega), if_pos (by omega), hn])
    clear hn
    go_enter Tryd.func28, Tryd.ntmps28
    go_wp2_with fail
    refine (give_no _ (by simp; omega) 262144 147 _).mono ?_
    rintro e w1 ⟨rfl, rfl⟩
    go_wp2_with fail
    refine (give_yes _ (by simp; omega) n 140 (by decide) _).mono ?_
    rintro e w1 ⟨⟨er, rfl, hc, her⟩, hb⟩
    go_wp2_with fail
    exact ⟨rfl, HeadPost.bad H.out ⟨_, rfl, hc, her⟩ (Nat.le_refl _) hb⟩
/-- The bytes of L lie at g from o on. -/
def CellsAt (w : World) (g o : Nat) (L : List Nat) : Prop := ∀ i, i < L.length → w.cell? ⟨g, o + i, none⟩ = some (.int .u8 ((L.getD i 0 : Nat) : Int))
theorem CellsAt.after {w w' : World} {g o B : Nat} {L : List Nat} (h : CellsAt w g o L) (hb : Below B w w') (hg : g < B) : CellsAt w' g o L := fun i hi => by
  rw [hb.cell (p := ⟨g, o + i, none⟩) hg]; exact h i hi
theorem byt_fld {w : World} {g o : Nat} {L : List Nat} (h : ∀ i, i < L.length → w.cell? ⟨g, o + i, none⟩ = some (.int .u8 ((L.getD i 0 : Nat) : Int))) {at' k : Nat} (hk : at' + k ≤ L.length) :
    ∀ i, i < k → w.cell? ⟨g, o + at' + i, none⟩ = some (.int .u8 ((L.getD (at' + i) 0 : Nat) : Int)) := fun i hi => by
  rw [Nat.add_assoc]; exact h (at' + i) (by omega)
theorem fixT_in : ∀ j, j < 9 → (fixT.getD j (0, 0, 0)).1 + (fixT.getD j (0, 0, 0)).2.1 ≤ 64 ∧ 0 < (fixT.getD j (0, 0, 0)).2.1 ∧ (fixT.getD j (0, 0, 0)).2.1 ≤ 8 := by decide
/-- Q, but R at a panic. -/
def AtPanic (R : List PanicEntry → World → Prop) (Q : Exit → Act → World → Prop) : Exit → Act → World → Prop
  | .panic c, a, w => a.defers = [] ∧ R c w
  | e, a, w => Q e a w
theorem wp_region_atPanic {P : Program} {id : Nat} {ops : Array Oper} {b : Bool} {Q : Exit → Act → World → Prop} {a : Act} {w : World} (R : List PanicEntry → World → Prop) (hR : ∀ c (a : Act) w, a.defers = [] → R c w → Q (.panic c) a w) (h : (Code.region id ops b).wp P (AtPanic R Q) a w) : (Code.region id ops b).wp P Q a w :=
  Code.wp_mono (fun e a w h => by cases e <;> first | exact h | exact hR _ _ _ h.1 h.2) h
theorem putd (a : Act) (d : Option Tmp) (v : Value) : (a.put d v).defers = a.defers := by unfold Act.put; split <;> rfl
theorem chain3 {W w3 w4 : World} (h : Below W.heap.size W w3) (hb : Below w3.heap.size w3 w4) : Below W.heap.size W w4 := h.trans (hb.mono h.size)
theorem wrong_code (at' : Nat) (k m : Int) (w : World) : Calls Tryd.prog 49 #[.agg #[.int .i64 (at' : Int), .int .i64 k, .int .u64 m]] w fun e w' => e = .returned (.int .i64 (codeAt at')) ∧ Below w.heap.size w w' :=
  (wrong_any (at' : Int) k m w (by omega)).mono fun e w' ⟨h, hb⟩ => ⟨by rw [h]; unfold codeAt; exact ret_int (by split <;> split <;> omega), hb⟩
theorem codeAt_ne (a : Nat) : (codeAt a != 0) = true := by unfold codeAt; split <;> decide
theorem get_fld (g o n c at' k : Nat) (m : Int) (L : List Nat) (w : World) (hL : ∀ i, L.getD i 0 < 256) (hk : 0 < k) (h8 : k ≤ 8) (h1 : at' + k ≤ L.length) (h2 : L.length ≤ c) (hc : c ≤ 9223372036854775807) (h : CellsAt w g o L) :
    Calls Tryd.prog 29 #[.agg #[.int .i64 (at' : Int), .int .i64 (k : Int), .int .u64 m], .slice (some ⟨g, o, none⟩) n c] w fun e w' => e = .returned (.int .u64 ((fld L at' k : Nat) : Int)) ∧ Below w.heap.size w w' :=
  get_any g o n c at' k m (fun i => L.getD (at' + i) 0) w (by omega) hk hc h8 (fun i => hL _) (byt_fld h h1)
theorem get_fld' (x : Nat) (g o n c at' k : Nat) (m : Int) (L : List Nat) (w : World) (hx : fld L at' k = x) (hL : ∀ i, L.getD i 0 < 256) (hk : 0 < k) (h8 : k ≤ 8) (h1 : at' + k ≤ L.length) (h2 : L.length ≤ c) (hc : c ≤ 9223372036854775807) (h : CellsAt w g o L) :
    Calls Tryd.prog 29 #[.agg #[.int .i64 (at' : Int), .int .i64 (k : Int), .int .u64 m], .slice (some ⟨g, o, none⟩) n c] w fun e w' => e = .returned (.int .u64 (x : Int)) ∧ Below w.heap.size w w' := by
  subst hx; exact get_fld g o n c at' k m L w hL hk h8 h1 h2 hc h
set_option maxRecDepth 100000 in
set_option maxHeartbeats 2000000 in
theorem head_any (g o n c : Nat) (L : List Nat) (w : World) (hn : n = L.length) (hnc : n ≤ c) (hc : c ≤ 9223372036854775807) (h1 : 64 ≤ n) (h2 : n ≤ 262144) (hL : ∀ i, L.getD i 0 < 256) (hT : TabR w)
    (h : CellsAt w g o L) : Calls Tryd.prog 28 #[.slice (some ⟨g, o, none⟩) n c] w (HeadPost L w) := by
  have HN := Lib.hid hn
  have HL := Lib.hid hL
  have HT := Lib.hid hT
  have HC := Lib.hid h
  have hg := World.block_lt_of_cell? _ _ (h 0 (by omega))
  obtain ⟨tt, fr, ht⟩ := hT.fixed
  have hfl := hT.fixlt
  clear hn hL hT h
  go_enter Tryd.func28, Tryd.ntmps28
  go_wp2_with fail
  refine (give_no _ (by simp; omega) 262144 147 _).mono ?_
  rintro e w1 ⟨rfl, rfl⟩
  go_wp2_with fail
  refine (give_no _ (by simp; omega) n 140 _).mono ?_
  rintro e w1 ⟨rfl, rfl⟩
  go_wp2_with (refine wpList_load_row rfl 83 _ rfl 3 rfl tt _ fr _ ht Tryd.underlying83 rfl (by kernel_rfl) ?_)
  go_loopw [20] (fun i wr => ∃ j : Nat, j ≤ 9 ∧ i = .int .i64 j ∧ fixNo L j = (0, 0) ∧ Below w.heap.size w wr) (fun i _ => 10 - (intOf i).toNat)
  case atStart => exact ⟨0, by omega, rfl, rfl, Below.refl _ _⟩
  case round =>
    obtain ⟨j, hj, rfl, hfx, hb⟩ := hrel
    have HB := Lib.hid hb
    have HF := Lib.hid hfx
    clear hb hfx
    by_cases hlt : j < 9
    · have HI := index_fix j hlt
      obtain ⟨ft1, ft2, ft3⟩ := fixT_in j hlt
      have HE := Lib.hid (show fixNo L (j + 1) = if fld L (fixT.getD j (0, 0, 0)).1 (fixT.getD j (0, 0, 0)).2.1 = (fixT.getD j (0, 0, 0)).2.2 then (0, 0) else (codeAt (fixT.getD j (0, 0, 0)).1, ((fixT.getD j (0, 0, 0)).1 : Int)) by rw [fixNo, if_neg (by rw [HF.out]; simp)])
      unfold fixV at HI
      generalize fixT.getD j (0, 0, 0) = t at *
      obtain ⟨ta, tk, tm⟩ := t
      dsimp only at HI ft1 ft2 ft3 HE
      have HB2 := Lib.hid (HB.out.alloc HB.out.size (.cells #[.int .i64 (ta : Int), .int .i64 (tk : Int), .int .u64 (tm : Int)] 65))
      have z1 : wr.heap.size < wr.heap.size + 1 := by omega
      have zz := HB.out.size
      go_wp2_with fail
      have k0 : (wr.alloc (.cells #[.int .i64 (ta : Int), .int .i64 (tk : Int), .int .u64 (tm : Int)] 65)).cell? ⟨wr.heap.size, 0, none⟩ = some (.int .i64 (ta : Int)) := by simp [go_sem]
      have k1 : (wr.alloc (.cells #[.int .i64 (ta : Int), .int .i64 (tk : Int), .int .u64 (tm : Int)] 65)).cell? ⟨wr.heap.size, 1, none⟩ = some (.int .i64 (tk : Int)) := by simp [go_sem]
      have k2 : (wr.alloc (.cells #[.int .i64 (ta : Int), .int .i64 (tk : Int), .int .u64 (tm : Int)] 65)).cell? ⟨wr.heap.size, 2, none⟩ = some (.int .u64 (tm : Int)) := by simp [go_sem]
      have KK := Lib.hid (And.intro k0 (And.intro k1 k2))
      clear k0 k1 k2 HB
      generalize wr.heap.size = N at *
      generalize wr.alloc (.cells #[.int .i64 (ta : Int), .int .i64 (tk : Int), .int .u64 (tm : Int)] 65) = W at *
      have HSof : Hid (∀ w' : World, Below W.heap.size W w' → w'.cell? ⟨N, 0, none⟩ = some (.int .i64 (ta : Int)) ∧ w'.cell? ⟨N, 1, none⟩ = some (.int .i64 (tk : Int)) ∧ w'.cell? ⟨N, 2, none⟩ = some (.int .u64 (tm : Int)) ∧ Below W.heap.size W w') := Lib.hid fun w' hb => by
        obtain ⟨hc, -⟩ := bcell hb
        obtain ⟨k0, k1, k2⟩ := KK.out
        refine ⟨?_, ?_, ?_, hb⟩
        · rw [hc _ _ (World.block_lt_of_cell? _ _ k0)]; exact k0
        · rw [hc _ _ (World.block_lt_of_cell? _ _ k1)]; exact k1
        · rw [hc _ _ (World.block_lt_of_cell? _ _ k2)]; exact k2
      by_cases hm : fld L ta tk = tm
      · go_region_held3 (fun w' => w'.cell? ⟨N, 0, none⟩ = some (.int .i64 (ta : Int)) ∧ w'.cell? ⟨N, 1, none⟩ = some (.int .i64 (tk : Int)) ∧ w'.cell? ⟨N, 2, none⟩ = some (.int .u64 (tm : Int)) ∧ Below W.heap.size W w') ((refine HSof.out _ ?_; repeat' (first | with_reducible assumption | with_reducible exact Below.refl _ _ | exact Nat.le_refl _ | with_reducible refine Below.drew ?_ | with_reducible refine Below.trans ?_ (Below.mono (by assumption) ?_) | (simp; done) | (refine Below.size (by assumption))))) ((first | (go_at_call 29; refine (get_fld g o n c ta tk (tm : Int) L _ HL.out ft2 ft3 (by have := HN.out; omega) (by have := HN.out; omega) hc (HC.out.after (B := w.heap.size) (HB2.out.trans ((show Below W.heap.size W _ by (repeat' (first | with_reducible assumption | with_reducible exact Below.refl _ _ | exact Nat.le_refl _ | with_reducible refine Below.drew ?_ | with_reducible refine Below.trans ?_ (Below.mono (by assumption) ?_) | (simp; done) | (refine Below.size (by assumption))))).mono HB2.out.size)) hg)).mono ?_; rintro e w2 ⟨rfl, hb2⟩; replace hb2 := chain3 (W := W) (by repeat' (first | with_reducible assumption | with_reducible exact Below.refl _ _ | with_reducible refine Below.drew ?_)) hb2) | (go_at_call 49; refine (wrong_code ta tk tm _).mono ?_; rintro e w2 ⟨rfl, hb2⟩; replace hb2 := chain3 (W := W) (by repeat' (first | with_reducible assumption | with_reducible exact Below.refl _ _ | with_reducible refine Below.drew ?_)) hb2) | (go_at_call 31; refine (give_no _ (by first | (simp; done) | (simp; omega)) _ _ _).mono ?_; rintro e w2 ⟨rfl, rfl⟩)))
        all_goals
          go_wp2_with fail
          go_roundw
          have hb2 := hb2
          case rel => exact ⟨j + 1, by omega, by go_num, by rw [HE.out, if_pos hm], HB2.out.trans (hb2.mono HB2.out.size)⟩
          case measure => simp [intOf]; omega
      · have HH := Lib.hid (show headC L = (codeAt ta, (ta : Int)) by
          have h9 := fixNo_stay L (j + 1) (by rw [HE.out, if_neg hm]; have := codeAt_ne ta; simpa using this) 9 (by omega)
          rw [HE.out, if_neg hm] at h9
          unfold headC
          rw [if_neg (by have := HN.out; omega), if_neg (by have := HN.out; omega), if_pos (by rw [h9]; have := codeAt_ne ta; simpa using this), h9])
        refine wp_region_held_drew (S := (fun w' => w'.cell? ⟨N, 0, none⟩ = some (.int .i64 (ta : Int)) ∧ w'.cell? ⟨N, 1, none⟩ = some (.int .i64 (tk : Int)) ∧ w'.cell? ⟨N, 2, none⟩ = some (.int .u64 (tm : Int)) ∧ Below W.heap.size W w')) (by kernel_rfl) (by (try dsimp only); refine HSof.out _ ?_; repeat' (first | with_reducible assumption | with_reducible exact Below.refl _ _ | exact Nat.le_refl _ | with_reducible refine Below.drew ?_ | with_reducible refine Below.trans ?_ (Below.mono (by assumption) ?_) | (simp; done) | (refine Below.size (by assumption)))) (fun hHeld => ?_)
        refine wpAnyH_take (i := 0) (oi := { dst := some 23, op := Op.load 65 (Operand.tmp 5), type := 65, pos := "elf.go:169", after := #[], guard := none }) (v := ?_) rfl (by kernel_rfl) (by kernel_rfl) (by kernel_rfl) (fun _ _ _ h => ⟨(putd _ _ _).symm.trans h.1, h.2⟩) (Or.inl ⟨by rfl, ?_⟩) (by assumption) ?_
        rotate_left; focus (intro w hSw; (try dsimp only at hSw); first | (go_simp; done) | (go_simp; with_reducible rfl))
        try simp only [Act.put, List.setIfInBounds_toArray, List.set_cons_zero, List.set_cons_succ]
        refine wpAnyH_take (i := 1) (oi := { dst := some 24, op := Op.move (Operand.tmp 0), type := 22, pos := "elf.go:169", after := #[], guard := none }) (v := ?_) rfl (by kernel_rfl) (by kernel_rfl) (by kernel_rfl) (fun _ _ _ h => ⟨(putd _ _ _).symm.trans h.1, h.2⟩) (Or.inl ⟨by rfl, ?_⟩) (by assumption) ?_
        rotate_left; focus (intro w hSw; (try dsimp only at hSw); first | (go_simp; done) | (go_simp; with_reducible rfl))
        try simp only [Act.put, List.setIfInBounds_toArray, List.set_cons_zero, List.set_cons_succ]
        refine wpAnyH_take (i := 3) (oi := { dst := some 26, op := Op.fieldAddr 65 (Operand.tmp 5) 2, type := 0, pos := "elf.go:169", after := #[], guard := none }) (v := ?_) rfl (by kernel_rfl) (by kernel_rfl) (by kernel_rfl) (fun _ _ _ h => ⟨(putd _ _ _).symm.trans h.1, h.2⟩) (Or.inl ⟨by rfl, ?_⟩) (by assumption) ?_
        rotate_left; focus (intro w hSw; (try dsimp only at hSw); first | (go_simp; done) | (go_simp; with_reducible rfl))
        try simp only [Act.put, List.setIfInBounds_toArray, List.set_cons_zero, List.set_cons_succ]
        refine wpAnyH_take (i := 4) (oi := { dst := some 27, op := Op.load 24 (Operand.tmp 26), type := 24, pos := "elf.go:169", after := #[{ on := 3, ground := Ground.data }], guard := none }) (v := ?_) rfl (by kernel_rfl) (by kernel_rfl) (by kernel_rfl) (fun _ _ _ h => ⟨(putd _ _ _).symm.trans h.1, h.2⟩) (Or.inl ⟨by rfl, ?_⟩) (by assumption) ?_
        rotate_left; focus (intro w hSw; (try dsimp only at hSw); first | (go_simp; done) | (go_simp; with_reducible rfl))
        try simp only [Act.put, List.setIfInBounds_toArray, List.set_cons_zero, List.set_cons_succ]
        refine wpAnyH_take (i := 6) (oi := { dst := some 29, op := Op.fieldAddr 65 (Operand.tmp 5) 0, type := 0, pos := "elf.go:169", after := #[], guard := none }) (v := ?_) rfl (by kernel_rfl) (by kernel_rfl) (by kernel_rfl) (fun _ _ _ h => ⟨(putd _ _ _).symm.trans h.1, h.2⟩) (Or.inl ⟨by rfl, ?_⟩) (by assumption) ?_
        rotate_left; focus (intro w hSw; (try dsimp only at hSw); first | (go_simp; done) | (go_simp; with_reducible rfl))
        try simp only [Act.put, List.setIfInBounds_toArray, List.set_cons_zero, List.set_cons_succ]
        refine wpAnyH_take (i := 7) (oi := { dst := some 30, op := Op.load 3 (Operand.tmp 29), type := 3, pos := "elf.go:169", after := #[{ on := 6, ground := Ground.data }], guard := none }) (v := ?_) rfl (by kernel_rfl) (by kernel_rfl) (by kernel_rfl) (fun _ _ _ h => ⟨(putd _ _ _).symm.trans h.1, h.2⟩) (Or.inl ⟨by rfl, ?_⟩) (by assumption) ?_
        rotate_left; focus (intro w hSw; (try dsimp only at hSw); first | (go_simp; done) | (go_simp; with_reducible rfl))
        try simp only [Act.put, List.setIfInBounds_toArray, List.set_cons_zero, List.set_cons_succ]
        refine wpAnyH_take (i := 8) (oi := { dst := some 31, op := Op.load 65 (Operand.tmp 5), type := 65, pos := "elf.go:169", after := #[], guard := none }) (v := ?_) rfl (by kernel_rfl) (by kernel_rfl) (by kernel_rfl) (fun _ _ _ h => ⟨(putd _ _ _).symm.trans h.1, h.2⟩) (Or.inl ⟨by rfl, ?_⟩) (by assumption) ?_
        rotate_left; focus (intro w hSw; (try dsimp only at hSw); first | (go_simp; done) | (go_simp; with_reducible rfl))
        try simp only [Act.put, List.setIfInBounds_toArray, List.set_cons_zero, List.set_cons_succ]
        refine wpAnyH_ready (rs := [2]) (by kernel_rfl) (by simp) (AllReadyH.cons (o := { dst := some 25, op := Op.call { callee := Callee.value (Operand.func 29), args := #[Operand.tmp 23, Operand.tmp 24], argTypes := #[65, 22] }, type := 24, pos := "elf.go:169", after := #[{ on := 0, ground := Ground.data }, { on := 1, ground := Ground.data }], guard := none }) rfl (fun K hK => ?_) AllReadyH.nil)
        go_simp
        refine (get_fld g o n c ta tk (tm : Int) L _ HL.out ft2 ft3 (by have := HN.out; omega) (by have := HN.out; omega) hc (HC.out.after (B := w.heap.size) (HB2.out.trans ((hHeld.2.2.2).mono HB2.out.size)) hg)).mono ?_
        rintro e w2 ⟨rfl, hb2⟩
        replace hb2 := chain3 (W := W) hHeld.2.2.2 hb2
        dsimp only
        refine hK.out _ _ (by (try dsimp only); refine HSof.out _ ?_; repeat' (first | with_reducible assumption | with_reducible exact Below.refl _ _ | exact Nat.le_refl _ | with_reducible refine Below.drew ?_ | with_reducible refine Below.trans ?_ (Below.mono (by assumption) ?_) | (simp; done) | (refine Below.size (by assumption)))) (fun hHeld => ?_)
        clear hK K
        try simp only [Act.put, List.setIfInBounds_toArray, List.set_cons_zero, List.set_cons_succ]
        refine wpAnyH_take (i := 5) (oi := { dst := some 28, op := Op.binOp BinOp.neq 24 (Operand.tmp 25) (Operand.tmp 27) 24, type := 4, pos := "elf.go:169", after := #[{ on := 2, ground := Ground.data }, { on := 4, ground := Ground.data }], guard := none }) (v := ?_) rfl (by kernel_rfl) (by kernel_rfl) (by kernel_rfl) (fun _ _ _ h => ⟨(putd _ _ _).symm.trans h.1, h.2⟩) (Or.inl ⟨by rfl, ?_⟩) (by assumption) ?_
        rotate_left; focus (intro w hSw; (try dsimp only at hSw); first | (go_simp; done) | (go_simp; with_reducible rfl))
        try simp only [Act.put, List.setIfInBounds_toArray, List.set_cons_zero, List.set_cons_succ]
        refine wpAnyH_ready (rs := [9]) (by kernel_rfl) (by simp) (AllReadyH.cons (o := { dst := some 32, op := Op.call { callee := Callee.value (Operand.func 49), args := #[Operand.tmp 31], argTypes := #[65] }, type := 69, pos := "elf.go:169", after := #[{ on := 8, ground := Ground.data }, { on := 2, ground := Ground.chain }], guard := none }) rfl (fun K hK => ?_) AllReadyH.nil)
        go_simp
        refine (wrong_code ta tk tm _).mono ?_
        rintro e w2 ⟨rfl, hb2⟩
        replace hb2 := chain3 (W := W) hHeld.2.2.2 hb2
        dsimp only
        refine hK.out _ _ (by (try dsimp only); refine HSof.out _ ?_; repeat' (first | with_reducible assumption | with_reducible exact Below.refl _ _ | exact Nat.le_refl _ | with_reducible refine Below.drew ?_ | with_reducible refine Below.trans ?_ (Below.mono (by assumption) ?_) | (simp; done) | (refine Below.size (by assumption)))) (fun hHeld => ?_)
        clear hK K
        try simp only [Act.put, List.setIfInBounds_toArray, List.set_cons_zero, List.set_cons_succ]
        refine wpAnyH_ready (rs := [10]) (by kernel_rfl) (by simp) (AllReadyH.cons (o := { dst := some 33, op := Op.call { callee := Callee.value (Operand.func 31), args := #[Operand.tmp 28, Operand.tmp 30, Operand.tmp 32], argTypes := #[4, 3, 69] }, type := 0, pos := "elf.go:169", after := #[{ on := 5, ground := Ground.data }, { on := 7, ground := Ground.data }, { on := 9, ground := Ground.data }, { on := 9, ground := Ground.chain }], guard := none }) rfl (fun K hK => ?_) AllReadyH.nil)
        go_simp
        refine (give_yes _ (by simp; omega) ta (codeAt ta) (codeAt_ne _) _).mono ?_
        rintro e w2 ⟨⟨er, rfl, hc3, her⟩, hb2⟩
        have hb3 := chain3 (W := W) hHeld.2.2.2 hb2
        exact ⟨rfl, HeadPost.bad HH.out ⟨er, rfl, hc3, her⟩ (Nat.le_trans HB2.out.size hHeld.2.2.2.size) (HB2.out.trans (hb3.mono HB2.out.size))⟩
    · have h9 : j = 9 := by omega
      subst h9
      obtain ⟨x, hx⟩ : ∃ x, fld L 56 2 = x := ⟨_, rfl⟩
      obtain ⟨y, hy⟩ : ∃ y, fld L 32 8 = y := ⟨_, rfl⟩
      have HX := Lib.hid hx
      have HY := Lib.hid hy
      have hF' : x < 65536 := by have h : fld L 56 2 < 65536 := fld_lt L HL.out 56 2; rw [hx] at h; exact h
      have hF2' : y < 18446744073709551616 := by have h : fld L 32 8 < 18446744073709551616 := fld_lt L HL.out 32 8; rw [hy] at h; exact h
      clear hx hy
      have hgc := HT.out.count.cells
      have hgh := HT.out.heads.cells
      have hlc := HT.out.count.lt
      have hlh := HT.out.heads.lt
      obtain ⟨hcw, -⟩ := bcell HB.out
      have c0 : wr.cell? ⟨1, 0, none⟩ = some (.int .i64 ((56 : Nat) : Int)) := by rw [hcw _ _ hlc]; exact hgc.1
      have c1 : wr.cell? ⟨1, 1, none⟩ = some (.int .i64 ((2 : Nat) : Int)) := by rw [hcw _ _ hlc]; exact hgc.2.1
      have c2 : wr.cell? ⟨1, 2, none⟩ = some (.int .u64 0) := by rw [hcw _ _ hlc]; exact hgc.2.2
      clear hgc hcw
      go_wp2_with fail
      refine (get_fld' x g o n c 56 2 0 L _ HX.out HL.out (by decide) (by decide) (by have := HN.out; omega) (by have := HN.out; omega) hc (HC.out.after (B := w.heap.size) HB.out hg)).mono ?_
      rintro e w2 ⟨rfl, hb2⟩
      have HB2 := Lib.hid (HB.out.trans (hb2.mono HB.out.size))
      obtain ⟨hcw, -⟩ := bcell HB2.out
      have d0 : w2.cell? ⟨1, 0, none⟩ = some (.int .i64 ((56 : Nat) : Int)) := by rw [hcw _ _ hlc]; exact HT.out.count.cells.1
      have d1 : w2.cell? ⟨4, 0, none⟩ = some (.int .i64 ((32 : Nat) : Int)) := by rw [hcw _ _ hlh]; exact hgh.1
      have d2 : w2.cell? ⟨4, 1, none⟩ = some (.int .i64 ((8 : Nat) : Int)) := by rw [hcw _ _ hlh]; exact hgh.2.1
      have d3 : w2.cell? ⟨4, 2, none⟩ = some (.int .u64 0) := by rw [hcw _ _ hlh]; exact hgh.2.2
      clear c0 c1 c2 HB hb2 hcw hgh
      by_cases hbad : x < 1 ∨ 64 < x
      · as_aux_lemma =>
          have HH := Lib.hid (show headC L = (143, 56) by
            unfold headC
            rw [HX.out, HY.out]
            rw [if_neg (by have := HN.out; omega), if_neg (by have := HN.out; omega), if_neg (by rw [HF.out]; simp), if_pos hbad])
          rcases hbad with hbad | hbad
          all_goals
            go_wp2_with fail
            refine (give_yes _ (by first | (simp; done) | (simp; omega)) 56 143 (by decide) _).mono ?_
            rintro e w3 ⟨⟨er, rfl, hc3, her⟩, hb3⟩
            go_wp2_with fail
            exact ⟨rfl, HeadPost.bad HH.out ⟨_, rfl, hc3, her⟩ HB2.out.size (HB2.out.trans (hb3.mono HB2.out.size))⟩
      · have e1 : ¬ x < 1 := by omega
        have e2 : ¬ 64 < x := by omega
        go_wp2_with fail
        refine (give_no _ (by first | (simp; done) | (simp; omega)) 56 143 _).mono ?_
        rintro e w3 ⟨rfl, rfl⟩
        go_wp2_with fail
        refine (get_fld' y g o n c 32 8 0 L _ HY.out HL.out (by decide) (by decide) (by have := HN.out; omega) (by have := HN.out; omega) hc (HC.out.after (B := w.heap.size) HB2.out hg)).mono ?_
        rintro e w3 ⟨rfl, hb3⟩
        have HB3 := Lib.hid (HB2.out.trans (hb3.mono HB2.out.size))
        obtain ⟨hcw, -⟩ := bcell HB3.out
        have f0 : w3.cell? ⟨4, 0, none⟩ = some (.int .i64 ((32 : Nat) : Int)) := by rw [hcw _ _ hlh]; exact HT.out.heads.cells.1
        clear hcw hb3 d0 d1 d2 d3
        by_cases hl1 : y ≤ n
        · have hs : IntKind.u64.wrap ((n : Int) - (y : Int)) = (n : Int) - (y : Int) := by rw [IntKind.wrap_u64]; omega
          by_cases hl2 : y + 56 * x ≤ n
          · as_aux_lemma =>
              have HH := Lib.hid (show headC L = (0, 0) by
                unfold headC
                rw [HX.out, HY.out]
                rw [if_neg (by have := HN.out; omega), if_neg (by have := HN.out; omega), if_neg (by rw [HF.out]; simp), if_neg hbad, if_neg (by have := HN.out; omega)])
              go_wp2_with fail
              refine (give_no _ (by first | (simp; done) | (simp; omega)) 32 140 _).mono ?_
              rintro e w4 ⟨rfl, rfl⟩
              go_wp2_with fail
              go_ret2
              exact ⟨Or.inl ⟨by rw [HH.out], by rw [HX.out, HY.out]; rfl⟩, HB3.out⟩
          · as_aux_lemma =>
              have HH := Lib.hid (show headC L = (140, 32) by
                unfold headC
                rw [HX.out, HY.out]
                rw [if_neg (by have := HN.out; omega), if_neg (by have := HN.out; omega), if_neg (by rw [HF.out]; simp), if_neg hbad, if_pos (by have := HN.out; omega)])
              go_wp2_with fail
              refine (give_yes _ (by first | (simp; done) | (simp; omega)) 32 140 (by decide) _).mono ?_
              rintro e w4 ⟨⟨er, rfl, hc3, her⟩, hb3⟩
              go_wp2_with fail
              exact ⟨rfl, HeadPost.bad HH.out ⟨_, rfl, hc3, her⟩ HB3.out.size (HB3.out.trans (hb3.mono HB3.out.size))⟩
        · as_aux_lemma =>
            have HH := Lib.hid (show headC L = (140, 32) by
              unfold headC
              rw [HX.out, HY.out]
              rw [if_neg (by have := HN.out; omega), if_neg (by have := HN.out; omega), if_neg (by rw [HF.out]; simp), if_neg hbad, if_pos (by have := HN.out; omega)])
            go_wp2_with fail
            refine (give_yes _ (by first | (simp; done) | (simp; omega)) 32 140 (by decide) _).mono ?_
            rintro e w4 ⟨⟨er, rfl, hc3, her⟩, hb3⟩
            go_wp2_with fail
            exact ⟨rfl, HeadPost.bad HH.out ⟨_, rfl, hc3, her⟩ HB3.out.size (HB3.out.trans (hb3.mono HB3.out.size))⟩
end Go.Proofs.YtdklggmeigogcaaDoor
