/- The document's Encode: walked. By an AI agent; printed by wip/gen_refencode.py. -/
import Derived.Test.YtgjiojcdifjhcaaDoorRefRefuse
set_option linter.unusedVariables false
set_option linter.unusedSimpArgs false
namespace Go.Proofs.YtgjiojcdifjhcaaDoor
open Go.RowKit
def partsOk (s : Nat) (K o a b c : Int) : Bool :=
  decide (0 ≤ o ∧ o < 128 ∧ 0 ≤ a ∧ a < 8 ∧ 0 ≤ b ∧ b < 128) && match s with
  | 8 | 9 => K == o
  | 1 | 4 | 12 => K == o + a * 4096 + b * 33554432
  | 3 => K == o + a * 4096 + (b / 2) * 67108864
  | 11 => K == c
  | _ => K == o + a * 4096
theorem word_parts : ∀ op, op < 77 → 1 ≤ op → partsOk (shN op) (wordOf op) (oc op) (f3 op) (f7 op) (wd op) = true := by decide
theorem immI_nn (s : Nat) (v : Int) : 0 ≤ immI s v := by
  unfold immI; split <;> omega
def OkPost (x : Int) (b : Bool) (w : World) (e : Ending) (w' : World) : Prop := e = .returned (.tuple #[.int .u32 x, .bool b]) ∧ Below w.heap.size w w'
theorem ok_given {x y : Int} {b : Bool} {w w' : World} (h : x = y) (hb : Below w.heap.size w w') : OkPost y b w (.returned (.tuple #[.int .u32 x, .bool b])) w' := by
  subst h; exact ⟨rfl, hb⟩
theorem barF_zero {s : Nat} {rd r1 r2 imm csr : Int} (h : (barF s rd r1 r2 imm csr).2 = 0) : okF s 0 rd ∧ okF s 1 r1 ∧ okF s 2 r2 ∧ okF s 3 csr ∧ immOk s imm := by
  unfold barF at h
  by_cases a0 : okF s 0 rd
  · by_cases a1 : okF s 1 r1
    · by_cases a2 : okF s 2 r2
      · by_cases a3 : okF s 3 csr
        · by_cases a4 : immOk s imm
          · exact ⟨a0, a1, a2, a3, a4⟩
          · rw [if_neg (not_not_intro a0), if_neg (not_not_intro a1), if_neg (not_not_intro a2), if_neg (not_not_intro a3), if_pos a4] at h; exact absurd h (by decide)
        · rw [if_neg (not_not_intro a0), if_neg (not_not_intro a1), if_neg (not_not_intro a2), if_pos a3] at h; exact absurd h (by decide)
      · rw [if_neg (not_not_intro a0), if_neg (not_not_intro a1), if_pos a2] at h; exact absurd h (by decide)
    · rw [if_neg (not_not_intro a0), if_pos a1] at h; exact absurd h (by decide)
  · rw [if_pos a0] at h; exact absurd h (by decide)
theorem barR_zero {op rd r1 r2 imm csr : Int} (h : (barR op rd r1 r2 imm csr).2 = 0) : 1 ≤ op ∧ op < 77 := by
  unfold barR at h
  by_cases a : 1 ≤ op ∧ op < 77
  · exact a
  · rw [if_neg a] at h; exact absurd h (by decide)
theorem encR_bar (op rd r1 r2 imm csr : Int) : encR op rd r1 r2 imm csr = (if (barR op rd r1 r2 imm csr).2 = 0 then accF (wordOf op.toNat) rd r1 r2 csr 4 + immI (shN op.toNat) imm else 0, (barR op rd r1 r2 imm csr).1, (barR op rd r1 r2 imm csr).2) := by
  unfold encR barR
  by_cases a : 1 ≤ op ∧ op < 77
  · rw [if_pos a, if_pos a]
  · rw [if_neg a, if_neg a]; rfl
set_option maxRecDepth 100000 in
set_option maxHeartbeats 4000000 in
theorem refencode_bad (op rd r1 r2 imm csr : Int) (h : (barR op rd r1 r2 imm csr).2 ≠ 0) (w : World) : Calls Tryd.prog 25 #[.agg #[.int .i64 op, .int .i64 rd, .int .i64 r1, .int .i64 r2, .int .i64 imm, .int .i64 csr]] w (OkPost 0 false w) := by
  have R := Lib.hid (fun w => refrefuse_any op rd r1 r2 imm csr w)
  have HN : Hid (((barR op rd r1 r2 imm csr).2 != 0) = true) := Lib.hid (by simpa using h)
  clear h
  go_enter Tryd.func25, Tryd.ntmps25
  go_wp2_with fail
  refine (R.out _).mono ?_
  rintro e w1 ⟨rfl, hb⟩
  clear R
  generalize barR op rd r1 r2 imm csr = x at *
  obtain ⟨p, c⟩ := x
  have hn : (c != 0) = true := HN.out
  have HB := Lib.hid hb
  clear hb
  go_wp2_with fail
  go_ret2
  exact ok_given rfl (((Below.refl _ _).alloc (Nat.le_refl _) _).trans (HB.out.mono (by simp)))
set_option maxRecDepth 100000 in
set_option maxHeartbeats 4000000 in
theorem refencode_1 (op : Int) (nmv : ByteArray) (K o a b c rd r1 r2 imm csr : Int) (R : ∀ w, Calls Tryd.prog 29 #[.int .i64 op] w fun e w' => e = .returned (.tuple #[.agg #[.string nmv, .int .i64 1, .int .i64 o, .int .i64 a, .int .i64 b, .int .u32 c], .bool true]) ∧ Below w.heap.size w w')
    (hp : partsOk 1 K o a b c = true) (hz : ∀ w, Calls Tryd.prog 26 #[.agg #[.int .i64 op, .int .i64 rd, .int .i64 r1, .int .i64 r2, .int .i64 imm, .int .i64 csr]] w (TwoPost (0, 0) w))
    (h0 : okF 1 0 rd) (h1 : okF 1 1 r1) (h2 : okF 1 2 r2) (h3 : okF 1 3 csr) (hl : K + rd * 128 + r1 * 32768 + r2 * 1048576 + csr * 1048576 + immI 1 imm < 4294967296) (hi : immOk 1 imm) (w : World) :
    Calls Tryd.prog 25 #[.agg #[.int .i64 op, .int .i64 rd, .int .i64 r1, .int .i64 r2, .int .i64 imm, .int .i64 csr]] w (OkPost (K + rd * 128 + r1 * 32768 + r2 * 1048576 + csr * 1048576 + immI 1 imm) true w) := by
  have RR := Lib.hid R
  have RZ := Lib.hid hz
  clear R hz
  have pp : (0 ≤ o ∧ o < 128 ∧ 0 ≤ a ∧ a < 8 ∧ 0 ≤ b ∧ b < 128) ∧ K = o + a * 4096 + b * 33554432 := by simpa [partsOk] using hp
  obtain ⟨⟨o0, o1, a0, a1, b0, b1⟩, pk⟩ := pp
  have l0 : 0 ≤ rd ∧ rd ≤ 31 := h0; have l1 : 0 ≤ r1 ∧ r1 ≤ 31 := h1; have l2 : 0 ≤ r2 ∧ r2 ≤ 31 := h2; have l3 : 0 ≤ csr ∧ csr ≤ 0 := h3
  clear h0 h1 h2 h3 hp hi
  obtain ⟨l00, l01⟩ := l0; obtain ⟨l10, l11⟩ := l1; obtain ⟨l20, l21⟩ := l2; obtain ⟨l30, l31⟩ := l3
  have mn := immI_nn 1 imm
  have RL := Lib.hid (fun w => laid_at 1 (by decide) (by decide) imm w)
  generalize immI 1 imm = m at *
  have HF := Lib.hid pk
  have HL := Lib.hid hl
  clear pk
  have ol : o ≤ 4294967295 := by omega
  clear hl
  go_enter Tryd.func25, Tryd.ntmps25
  go_wp2_with fail
  refine (RZ.out _).mono ?_
  rintro e w1 ⟨rfl, hb⟩
  obtain ⟨hc1, hf1⟩ := bcell hb
  have hz1 := hb.size
  simp only [World.size_alloc] at hc1 hf1 hz1
  have hz1' : w.heap.size < w1.heap.size := by omega
  go_wp2_with fail
  refine (RR.out _).mono ?_
  rintro e w2 ⟨rfl, hb2⟩
  obtain ⟨hc2, hf2⟩ := bcell hb2
  have hz2 := hb2.size
  have hz2' : w.heap.size < w2.heap.size := by omega
  have BB : Hid (Below w.heap.size w w2) := Lib.hid ((((Below.refl _ _).alloc (Nat.le_refl _) _).trans (hb.mono (by simp))).trans (hb2.mono (by omega)))
  have q1 : w2.cell? ⟨w.heap.size, 1, none⟩ = some (.int .i64 rd) := by rw [hc2 _ _ (by omega), hc1 _ _ (by omega)]; simp [go_sem]
  have q2 : w2.cell? ⟨w.heap.size, 2, none⟩ = some (.int .i64 r1) := by rw [hc2 _ _ (by omega), hc1 _ _ (by omega)]; simp [go_sem]
  have q3 : w2.cell? ⟨w.heap.size, 3, none⟩ = some (.int .i64 r2) := by rw [hc2 _ _ (by omega), hc1 _ _ (by omega)]; simp [go_sem]
  have q4 : w2.cell? ⟨w.heap.size, 4, none⟩ = some (.int .i64 imm) := by rw [hc2 _ _ (by omega), hc1 _ _ (by omega)]; simp [go_sem]
  have q5 : w2.cell? ⟨w.heap.size, 5, none⟩ = some (.int .i64 csr) := by rw [hc2 _ _ (by omega), hc1 _ _ (by omega)]; simp [go_sem]
  clear hb hb2 hc1 hf1 hz1 hc2 hf2 hz2 hz1'
  go_wp2_with fail
  refine (RL.out _).mono ?_
  rintro e w3 ⟨rfl, rfl⟩
  have hl := HL.out
  have hf := HF.out
  go_wp2_with fail
  go_ret2
  exact ok_given (by omega) (BB.out.alloc (by omega) _)
set_option maxRecDepth 100000 in
set_option maxHeartbeats 4000000 in
theorem refencode_2 (op : Int) (nmv : ByteArray) (K o a b c rd r1 r2 imm csr : Int) (R : ∀ w, Calls Tryd.prog 29 #[.int .i64 op] w fun e w' => e = .returned (.tuple #[.agg #[.string nmv, .int .i64 2, .int .i64 o, .int .i64 a, .int .i64 b, .int .u32 c], .bool true]) ∧ Below w.heap.size w w')
    (hp : partsOk 2 K o a b c = true) (hz : ∀ w, Calls Tryd.prog 26 #[.agg #[.int .i64 op, .int .i64 rd, .int .i64 r1, .int .i64 r2, .int .i64 imm, .int .i64 csr]] w (TwoPost (0, 0) w))
    (h0 : okF 2 0 rd) (h1 : okF 2 1 r1) (h2 : okF 2 2 r2) (h3 : okF 2 3 csr) (hl : K + rd * 128 + r1 * 32768 + r2 * 1048576 + csr * 1048576 + immI 2 imm < 4294967296) (hi : immOk 2 imm) (w : World) :
    Calls Tryd.prog 25 #[.agg #[.int .i64 op, .int .i64 rd, .int .i64 r1, .int .i64 r2, .int .i64 imm, .int .i64 csr]] w (OkPost (K + rd * 128 + r1 * 32768 + r2 * 1048576 + csr * 1048576 + immI 2 imm) true w) := by
  have RR := Lib.hid R
  have RZ := Lib.hid hz
  clear R hz
  have pp : (0 ≤ o ∧ o < 128 ∧ 0 ≤ a ∧ a < 8 ∧ 0 ≤ b ∧ b < 128) ∧ K = o + a * 4096 := by simpa [partsOk] using hp
  obtain ⟨⟨o0, o1, a0, a1, b0, b1⟩, pk⟩ := pp
  have l0 : 0 ≤ rd ∧ rd ≤ 31 := h0; have l1 : 0 ≤ r1 ∧ r1 ≤ 31 := h1; have l2 : 0 ≤ r2 ∧ r2 ≤ 0 := h2; have l3 : 0 ≤ csr ∧ csr ≤ 0 := h3
  clear h0 h1 h2 h3 hp hi
  obtain ⟨l00, l01⟩ := l0; obtain ⟨l10, l11⟩ := l1; obtain ⟨l20, l21⟩ := l2; obtain ⟨l30, l31⟩ := l3
  have mn := immI_nn 2 imm
  have RL := Lib.hid (fun w => laid_at 2 (by decide) (by decide) imm w)
  generalize immI 2 imm = m at *
  have HF := Lib.hid pk
  have HL := Lib.hid hl
  clear pk
  have ol : o ≤ 4294967295 := by omega
  clear hl
  go_enter Tryd.func25, Tryd.ntmps25
  go_wp2_with fail
  refine (RZ.out _).mono ?_
  rintro e w1 ⟨rfl, hb⟩
  obtain ⟨hc1, hf1⟩ := bcell hb
  have hz1 := hb.size
  simp only [World.size_alloc] at hc1 hf1 hz1
  have hz1' : w.heap.size < w1.heap.size := by omega
  go_wp2_with fail
  refine (RR.out _).mono ?_
  rintro e w2 ⟨rfl, hb2⟩
  obtain ⟨hc2, hf2⟩ := bcell hb2
  have hz2 := hb2.size
  have hz2' : w.heap.size < w2.heap.size := by omega
  have BB : Hid (Below w.heap.size w w2) := Lib.hid ((((Below.refl _ _).alloc (Nat.le_refl _) _).trans (hb.mono (by simp))).trans (hb2.mono (by omega)))
  have q1 : w2.cell? ⟨w.heap.size, 1, none⟩ = some (.int .i64 rd) := by rw [hc2 _ _ (by omega), hc1 _ _ (by omega)]; simp [go_sem]
  have q2 : w2.cell? ⟨w.heap.size, 2, none⟩ = some (.int .i64 r1) := by rw [hc2 _ _ (by omega), hc1 _ _ (by omega)]; simp [go_sem]
  have q3 : w2.cell? ⟨w.heap.size, 3, none⟩ = some (.int .i64 r2) := by rw [hc2 _ _ (by omega), hc1 _ _ (by omega)]; simp [go_sem]
  have q4 : w2.cell? ⟨w.heap.size, 4, none⟩ = some (.int .i64 imm) := by rw [hc2 _ _ (by omega), hc1 _ _ (by omega)]; simp [go_sem]
  have q5 : w2.cell? ⟨w.heap.size, 5, none⟩ = some (.int .i64 csr) := by rw [hc2 _ _ (by omega), hc1 _ _ (by omega)]; simp [go_sem]
  clear hb hb2 hc1 hf1 hz1 hc2 hf2 hz2 hz1'
  go_wp2_with fail
  refine (RL.out _).mono ?_
  rintro e w3 ⟨rfl, rfl⟩
  have hl := HL.out
  have hf := HF.out
  go_wp2_with fail
  go_ret2
  exact ok_given (by omega) (BB.out.alloc (by omega) _)
set_option maxRecDepth 100000 in
set_option maxHeartbeats 4000000 in
theorem refencode_3 (op : Int) (nmv : ByteArray) (K o a b c rd r1 r2 imm csr : Int) (R : ∀ w, Calls Tryd.prog 29 #[.int .i64 op] w fun e w' => e = .returned (.tuple #[.agg #[.string nmv, .int .i64 3, .int .i64 o, .int .i64 a, .int .i64 b, .int .u32 c], .bool true]) ∧ Below w.heap.size w w')
    (hp : partsOk 3 K o a b c = true) (hz : ∀ w, Calls Tryd.prog 26 #[.agg #[.int .i64 op, .int .i64 rd, .int .i64 r1, .int .i64 r2, .int .i64 imm, .int .i64 csr]] w (TwoPost (0, 0) w))
    (h0 : okF 3 0 rd) (h1 : okF 3 1 r1) (h2 : okF 3 2 r2) (h3 : okF 3 3 csr) (hl : K + rd * 128 + r1 * 32768 + r2 * 1048576 + csr * 1048576 + immI 3 imm < 4294967296) (hi : immOk 3 imm) (w : World) :
    Calls Tryd.prog 25 #[.agg #[.int .i64 op, .int .i64 rd, .int .i64 r1, .int .i64 r2, .int .i64 imm, .int .i64 csr]] w (OkPost (K + rd * 128 + r1 * 32768 + r2 * 1048576 + csr * 1048576 + immI 3 imm) true w) := by
  have RR := Lib.hid R
  have RZ := Lib.hid hz
  clear R hz
  have pp : (0 ≤ o ∧ o < 128 ∧ 0 ≤ a ∧ a < 8 ∧ 0 ≤ b ∧ b < 128) ∧ K = o + a * 4096 + (b / 2) * 67108864 := by simpa [partsOk] using hp
  obtain ⟨⟨o0, o1, a0, a1, b0, b1⟩, pk⟩ := pp
  have l0 : 0 ≤ rd ∧ rd ≤ 31 := h0; have l1 : 0 ≤ r1 ∧ r1 ≤ 31 := h1; have l2 : 0 ≤ r2 ∧ r2 ≤ 0 := h2; have l3 : 0 ≤ csr ∧ csr ≤ 0 := h3
  clear h0 h1 h2 h3 hp hi
  obtain ⟨l00, l01⟩ := l0; obtain ⟨l10, l11⟩ := l1; obtain ⟨l20, l21⟩ := l2; obtain ⟨l30, l31⟩ := l3
  have mn := immI_nn 3 imm
  have RL := Lib.hid (fun w => laid_at 3 (by decide) (by decide) imm w)
  generalize immI 3 imm = m at *
  have HF := Lib.hid pk
  have HL := Lib.hid hl
  clear pk
  have ol : o ≤ 4294967295 := by omega
  clear hl
  go_enter Tryd.func25, Tryd.ntmps25
  go_wp2_with fail
  refine (RZ.out _).mono ?_
  rintro e w1 ⟨rfl, hb⟩
  obtain ⟨hc1, hf1⟩ := bcell hb
  have hz1 := hb.size
  simp only [World.size_alloc] at hc1 hf1 hz1
  have hz1' : w.heap.size < w1.heap.size := by omega
  go_wp2_with fail
  refine (RR.out _).mono ?_
  rintro e w2 ⟨rfl, hb2⟩
  obtain ⟨hc2, hf2⟩ := bcell hb2
  have hz2 := hb2.size
  have hz2' : w.heap.size < w2.heap.size := by omega
  have BB : Hid (Below w.heap.size w w2) := Lib.hid ((((Below.refl _ _).alloc (Nat.le_refl _) _).trans (hb.mono (by simp))).trans (hb2.mono (by omega)))
  have q1 : w2.cell? ⟨w.heap.size, 1, none⟩ = some (.int .i64 rd) := by rw [hc2 _ _ (by omega), hc1 _ _ (by omega)]; simp [go_sem]
  have q2 : w2.cell? ⟨w.heap.size, 2, none⟩ = some (.int .i64 r1) := by rw [hc2 _ _ (by omega), hc1 _ _ (by omega)]; simp [go_sem]
  have q3 : w2.cell? ⟨w.heap.size, 3, none⟩ = some (.int .i64 r2) := by rw [hc2 _ _ (by omega), hc1 _ _ (by omega)]; simp [go_sem]
  have q4 : w2.cell? ⟨w.heap.size, 4, none⟩ = some (.int .i64 imm) := by rw [hc2 _ _ (by omega), hc1 _ _ (by omega)]; simp [go_sem]
  have q5 : w2.cell? ⟨w.heap.size, 5, none⟩ = some (.int .i64 csr) := by rw [hc2 _ _ (by omega), hc1 _ _ (by omega)]; simp [go_sem]
  clear hb hb2 hc1 hf1 hz1 hc2 hf2 hz2 hz1'
  go_wp2_with fail
  refine (RL.out _).mono ?_
  rintro e w3 ⟨rfl, rfl⟩
  have hl := HL.out
  have hf := HF.out
  go_wp2_with fail
  go_ret2
  exact ok_given (by omega) (BB.out.alloc (by omega) _)
set_option maxRecDepth 100000 in
set_option maxHeartbeats 4000000 in
theorem refencode_4 (op : Int) (nmv : ByteArray) (K o a b c rd r1 r2 imm csr : Int) (R : ∀ w, Calls Tryd.prog 29 #[.int .i64 op] w fun e w' => e = .returned (.tuple #[.agg #[.string nmv, .int .i64 4, .int .i64 o, .int .i64 a, .int .i64 b, .int .u32 c], .bool true]) ∧ Below w.heap.size w w')
    (hp : partsOk 4 K o a b c = true) (hz : ∀ w, Calls Tryd.prog 26 #[.agg #[.int .i64 op, .int .i64 rd, .int .i64 r1, .int .i64 r2, .int .i64 imm, .int .i64 csr]] w (TwoPost (0, 0) w))
    (h0 : okF 4 0 rd) (h1 : okF 4 1 r1) (h2 : okF 4 2 r2) (h3 : okF 4 3 csr) (hl : K + rd * 128 + r1 * 32768 + r2 * 1048576 + csr * 1048576 + immI 4 imm < 4294967296) (hi : immOk 4 imm) (w : World) :
    Calls Tryd.prog 25 #[.agg #[.int .i64 op, .int .i64 rd, .int .i64 r1, .int .i64 r2, .int .i64 imm, .int .i64 csr]] w (OkPost (K + rd * 128 + r1 * 32768 + r2 * 1048576 + csr * 1048576 + immI 4 imm) true w) := by
  have RR := Lib.hid R
  have RZ := Lib.hid hz
  clear R hz
  have pp : (0 ≤ o ∧ o < 128 ∧ 0 ≤ a ∧ a < 8 ∧ 0 ≤ b ∧ b < 128) ∧ K = o + a * 4096 + b * 33554432 := by simpa [partsOk] using hp
  obtain ⟨⟨o0, o1, a0, a1, b0, b1⟩, pk⟩ := pp
  have l0 : 0 ≤ rd ∧ rd ≤ 31 := h0; have l1 : 0 ≤ r1 ∧ r1 ≤ 31 := h1; have l2 : 0 ≤ r2 ∧ r2 ≤ 0 := h2; have l3 : 0 ≤ csr ∧ csr ≤ 0 := h3
  clear h0 h1 h2 h3 hp hi
  obtain ⟨l00, l01⟩ := l0; obtain ⟨l10, l11⟩ := l1; obtain ⟨l20, l21⟩ := l2; obtain ⟨l30, l31⟩ := l3
  have mn := immI_nn 4 imm
  have RL := Lib.hid (fun w => laid_at 4 (by decide) (by decide) imm w)
  generalize immI 4 imm = m at *
  have HF := Lib.hid pk
  have HL := Lib.hid hl
  clear pk
  have ol : o ≤ 4294967295 := by omega
  clear hl
  go_enter Tryd.func25, Tryd.ntmps25
  go_wp2_with fail
  refine (RZ.out _).mono ?_
  rintro e w1 ⟨rfl, hb⟩
  obtain ⟨hc1, hf1⟩ := bcell hb
  have hz1 := hb.size
  simp only [World.size_alloc] at hc1 hf1 hz1
  have hz1' : w.heap.size < w1.heap.size := by omega
  go_wp2_with fail
  refine (RR.out _).mono ?_
  rintro e w2 ⟨rfl, hb2⟩
  obtain ⟨hc2, hf2⟩ := bcell hb2
  have hz2 := hb2.size
  have hz2' : w.heap.size < w2.heap.size := by omega
  have BB : Hid (Below w.heap.size w w2) := Lib.hid ((((Below.refl _ _).alloc (Nat.le_refl _) _).trans (hb.mono (by simp))).trans (hb2.mono (by omega)))
  have q1 : w2.cell? ⟨w.heap.size, 1, none⟩ = some (.int .i64 rd) := by rw [hc2 _ _ (by omega), hc1 _ _ (by omega)]; simp [go_sem]
  have q2 : w2.cell? ⟨w.heap.size, 2, none⟩ = some (.int .i64 r1) := by rw [hc2 _ _ (by omega), hc1 _ _ (by omega)]; simp [go_sem]
  have q3 : w2.cell? ⟨w.heap.size, 3, none⟩ = some (.int .i64 r2) := by rw [hc2 _ _ (by omega), hc1 _ _ (by omega)]; simp [go_sem]
  have q4 : w2.cell? ⟨w.heap.size, 4, none⟩ = some (.int .i64 imm) := by rw [hc2 _ _ (by omega), hc1 _ _ (by omega)]; simp [go_sem]
  have q5 : w2.cell? ⟨w.heap.size, 5, none⟩ = some (.int .i64 csr) := by rw [hc2 _ _ (by omega), hc1 _ _ (by omega)]; simp [go_sem]
  clear hb hb2 hc1 hf1 hz1 hc2 hf2 hz2 hz1'
  go_wp2_with fail
  refine (RL.out _).mono ?_
  rintro e w3 ⟨rfl, rfl⟩
  have hl := HL.out
  have hf := HF.out
  go_wp2_with fail
  go_ret2
  exact ok_given (by omega) (BB.out.alloc (by omega) _)
set_option maxRecDepth 100000 in
set_option maxHeartbeats 4000000 in
theorem refencode_5 (op : Int) (nmv : ByteArray) (K o a b c rd r1 r2 imm csr : Int) (R : ∀ w, Calls Tryd.prog 29 #[.int .i64 op] w fun e w' => e = .returned (.tuple #[.agg #[.string nmv, .int .i64 5, .int .i64 o, .int .i64 a, .int .i64 b, .int .u32 c], .bool true]) ∧ Below w.heap.size w w')
    (hp : partsOk 5 K o a b c = true) (hz : ∀ w, Calls Tryd.prog 26 #[.agg #[.int .i64 op, .int .i64 rd, .int .i64 r1, .int .i64 r2, .int .i64 imm, .int .i64 csr]] w (TwoPost (0, 0) w))
    (h0 : okF 5 0 rd) (h1 : okF 5 1 r1) (h2 : okF 5 2 r2) (h3 : okF 5 3 csr) (hl : K + rd * 128 + r1 * 32768 + r2 * 1048576 + csr * 1048576 + immI 5 imm < 4294967296) (hi : immOk 5 imm) (w : World) :
    Calls Tryd.prog 25 #[.agg #[.int .i64 op, .int .i64 rd, .int .i64 r1, .int .i64 r2, .int .i64 imm, .int .i64 csr]] w (OkPost (K + rd * 128 + r1 * 32768 + r2 * 1048576 + csr * 1048576 + immI 5 imm) true w) := by
  have RR := Lib.hid R
  have RZ := Lib.hid hz
  clear R hz
  have pp : (0 ≤ o ∧ o < 128 ∧ 0 ≤ a ∧ a < 8 ∧ 0 ≤ b ∧ b < 128) ∧ K = o + a * 4096 := by simpa [partsOk] using hp
  obtain ⟨⟨o0, o1, a0, a1, b0, b1⟩, pk⟩ := pp
  have l0 : 0 ≤ rd ∧ rd ≤ 31 := h0; have l1 : 0 ≤ r1 ∧ r1 ≤ 31 := h1; have l2 : 0 ≤ r2 ∧ r2 ≤ 0 := h2; have l3 : 0 ≤ csr ∧ csr ≤ 0 := h3
  clear h0 h1 h2 h3 hp hi
  obtain ⟨l00, l01⟩ := l0; obtain ⟨l10, l11⟩ := l1; obtain ⟨l20, l21⟩ := l2; obtain ⟨l30, l31⟩ := l3
  have mn := immI_nn 5 imm
  have RL := Lib.hid (fun w => laid_at 5 (by decide) (by decide) imm w)
  generalize immI 5 imm = m at *
  have HF := Lib.hid pk
  have HL := Lib.hid hl
  clear pk
  have ol : o ≤ 4294967295 := by omega
  clear hl
  go_enter Tryd.func25, Tryd.ntmps25
  go_wp2_with fail
  refine (RZ.out _).mono ?_
  rintro e w1 ⟨rfl, hb⟩
  obtain ⟨hc1, hf1⟩ := bcell hb
  have hz1 := hb.size
  simp only [World.size_alloc] at hc1 hf1 hz1
  have hz1' : w.heap.size < w1.heap.size := by omega
  go_wp2_with fail
  refine (RR.out _).mono ?_
  rintro e w2 ⟨rfl, hb2⟩
  obtain ⟨hc2, hf2⟩ := bcell hb2
  have hz2 := hb2.size
  have hz2' : w.heap.size < w2.heap.size := by omega
  have BB : Hid (Below w.heap.size w w2) := Lib.hid ((((Below.refl _ _).alloc (Nat.le_refl _) _).trans (hb.mono (by simp))).trans (hb2.mono (by omega)))
  have q1 : w2.cell? ⟨w.heap.size, 1, none⟩ = some (.int .i64 rd) := by rw [hc2 _ _ (by omega), hc1 _ _ (by omega)]; simp [go_sem]
  have q2 : w2.cell? ⟨w.heap.size, 2, none⟩ = some (.int .i64 r1) := by rw [hc2 _ _ (by omega), hc1 _ _ (by omega)]; simp [go_sem]
  have q3 : w2.cell? ⟨w.heap.size, 3, none⟩ = some (.int .i64 r2) := by rw [hc2 _ _ (by omega), hc1 _ _ (by omega)]; simp [go_sem]
  have q4 : w2.cell? ⟨w.heap.size, 4, none⟩ = some (.int .i64 imm) := by rw [hc2 _ _ (by omega), hc1 _ _ (by omega)]; simp [go_sem]
  have q5 : w2.cell? ⟨w.heap.size, 5, none⟩ = some (.int .i64 csr) := by rw [hc2 _ _ (by omega), hc1 _ _ (by omega)]; simp [go_sem]
  clear hb hb2 hc1 hf1 hz1 hc2 hf2 hz2 hz1'
  go_wp2_with fail
  refine (RL.out _).mono ?_
  rintro e w3 ⟨rfl, rfl⟩
  have hl := HL.out
  have hf := HF.out
  go_wp2_with fail
  go_ret2
  exact ok_given (by omega) (BB.out.alloc (by omega) _)
set_option maxRecDepth 100000 in
set_option maxHeartbeats 4000000 in
theorem refencode_6 (op : Int) (nmv : ByteArray) (K o a b c rd r1 r2 imm csr : Int) (R : ∀ w, Calls Tryd.prog 29 #[.int .i64 op] w fun e w' => e = .returned (.tuple #[.agg #[.string nmv, .int .i64 6, .int .i64 o, .int .i64 a, .int .i64 b, .int .u32 c], .bool true]) ∧ Below w.heap.size w w')
    (hp : partsOk 6 K o a b c = true) (hz : ∀ w, Calls Tryd.prog 26 #[.agg #[.int .i64 op, .int .i64 rd, .int .i64 r1, .int .i64 r2, .int .i64 imm, .int .i64 csr]] w (TwoPost (0, 0) w))
    (h0 : okF 6 0 rd) (h1 : okF 6 1 r1) (h2 : okF 6 2 r2) (h3 : okF 6 3 csr) (hl : K + rd * 128 + r1 * 32768 + r2 * 1048576 + csr * 1048576 + immI 6 imm < 4294967296) (hi : immOk 6 imm) (w : World) :
    Calls Tryd.prog 25 #[.agg #[.int .i64 op, .int .i64 rd, .int .i64 r1, .int .i64 r2, .int .i64 imm, .int .i64 csr]] w (OkPost (K + rd * 128 + r1 * 32768 + r2 * 1048576 + csr * 1048576 + immI 6 imm) true w) := by
  have RR := Lib.hid R
  have RZ := Lib.hid hz
  clear R hz
  have pp : (0 ≤ o ∧ o < 128 ∧ 0 ≤ a ∧ a < 8 ∧ 0 ≤ b ∧ b < 128) ∧ K = o + a * 4096 := by simpa [partsOk] using hp
  obtain ⟨⟨o0, o1, a0, a1, b0, b1⟩, pk⟩ := pp
  have l0 : 0 ≤ rd ∧ rd ≤ 0 := h0; have l1 : 0 ≤ r1 ∧ r1 ≤ 31 := h1; have l2 : 0 ≤ r2 ∧ r2 ≤ 31 := h2; have l3 : 0 ≤ csr ∧ csr ≤ 0 := h3
  clear h0 h1 h2 h3 hp hi
  obtain ⟨l00, l01⟩ := l0; obtain ⟨l10, l11⟩ := l1; obtain ⟨l20, l21⟩ := l2; obtain ⟨l30, l31⟩ := l3
  have mn := immI_nn 6 imm
  have RL := Lib.hid (fun w => laid_at 6 (by decide) (by decide) imm w)
  generalize immI 6 imm = m at *
  have HF := Lib.hid pk
  have HL := Lib.hid hl
  clear pk
  have ol : o ≤ 4294967295 := by omega
  clear hl
  go_enter Tryd.func25, Tryd.ntmps25
  go_wp2_with fail
  refine (RZ.out _).mono ?_
  rintro e w1 ⟨rfl, hb⟩
  obtain ⟨hc1, hf1⟩ := bcell hb
  have hz1 := hb.size
  simp only [World.size_alloc] at hc1 hf1 hz1
  have hz1' : w.heap.size < w1.heap.size := by omega
  go_wp2_with fail
  refine (RR.out _).mono ?_
  rintro e w2 ⟨rfl, hb2⟩
  obtain ⟨hc2, hf2⟩ := bcell hb2
  have hz2 := hb2.size
  have hz2' : w.heap.size < w2.heap.size := by omega
  have BB : Hid (Below w.heap.size w w2) := Lib.hid ((((Below.refl _ _).alloc (Nat.le_refl _) _).trans (hb.mono (by simp))).trans (hb2.mono (by omega)))
  have q1 : w2.cell? ⟨w.heap.size, 1, none⟩ = some (.int .i64 rd) := by rw [hc2 _ _ (by omega), hc1 _ _ (by omega)]; simp [go_sem]
  have q2 : w2.cell? ⟨w.heap.size, 2, none⟩ = some (.int .i64 r1) := by rw [hc2 _ _ (by omega), hc1 _ _ (by omega)]; simp [go_sem]
  have q3 : w2.cell? ⟨w.heap.size, 3, none⟩ = some (.int .i64 r2) := by rw [hc2 _ _ (by omega), hc1 _ _ (by omega)]; simp [go_sem]
  have q4 : w2.cell? ⟨w.heap.size, 4, none⟩ = some (.int .i64 imm) := by rw [hc2 _ _ (by omega), hc1 _ _ (by omega)]; simp [go_sem]
  have q5 : w2.cell? ⟨w.heap.size, 5, none⟩ = some (.int .i64 csr) := by rw [hc2 _ _ (by omega), hc1 _ _ (by omega)]; simp [go_sem]
  clear hb hb2 hc1 hf1 hz1 hc2 hf2 hz2 hz1'
  go_wp2_with fail
  refine (RL.out _).mono ?_
  rintro e w3 ⟨rfl, rfl⟩
  have hl := HL.out
  have hf := HF.out
  go_wp2_with fail
  go_ret2
  exact ok_given (by omega) (BB.out.alloc (by omega) _)
set_option maxRecDepth 100000 in
set_option maxHeartbeats 4000000 in
theorem refencode_7 (op : Int) (nmv : ByteArray) (K o a b c rd r1 r2 imm csr : Int) (R : ∀ w, Calls Tryd.prog 29 #[.int .i64 op] w fun e w' => e = .returned (.tuple #[.agg #[.string nmv, .int .i64 7, .int .i64 o, .int .i64 a, .int .i64 b, .int .u32 c], .bool true]) ∧ Below w.heap.size w w')
    (hp : partsOk 7 K o a b c = true) (hz : ∀ w, Calls Tryd.prog 26 #[.agg #[.int .i64 op, .int .i64 rd, .int .i64 r1, .int .i64 r2, .int .i64 imm, .int .i64 csr]] w (TwoPost (0, 0) w))
    (h0 : okF 7 0 rd) (h1 : okF 7 1 r1) (h2 : okF 7 2 r2) (h3 : okF 7 3 csr) (hl : K + rd * 128 + r1 * 32768 + r2 * 1048576 + csr * 1048576 + immI 7 imm < 4294967296) (hi : immOk 7 imm) (w : World) :
    Calls Tryd.prog 25 #[.agg #[.int .i64 op, .int .i64 rd, .int .i64 r1, .int .i64 r2, .int .i64 imm, .int .i64 csr]] w (OkPost (K + rd * 128 + r1 * 32768 + r2 * 1048576 + csr * 1048576 + immI 7 imm) true w) := by
  have RR := Lib.hid R
  have RZ := Lib.hid hz
  clear R hz
  have pp : (0 ≤ o ∧ o < 128 ∧ 0 ≤ a ∧ a < 8 ∧ 0 ≤ b ∧ b < 128) ∧ K = o + a * 4096 := by simpa [partsOk] using hp
  obtain ⟨⟨o0, o1, a0, a1, b0, b1⟩, pk⟩ := pp
  have l0 : 0 ≤ rd ∧ rd ≤ 0 := h0; have l1 : 0 ≤ r1 ∧ r1 ≤ 31 := h1; have l2 : 0 ≤ r2 ∧ r2 ≤ 31 := h2; have l3 : 0 ≤ csr ∧ csr ≤ 0 := h3
  clear h0 h1 h2 h3 hp hi
  obtain ⟨l00, l01⟩ := l0; obtain ⟨l10, l11⟩ := l1; obtain ⟨l20, l21⟩ := l2; obtain ⟨l30, l31⟩ := l3
  have mn := immI_nn 7 imm
  have RL := Lib.hid (fun w => laid_at 7 (by decide) (by decide) imm w)
  generalize immI 7 imm = m at *
  have HF := Lib.hid pk
  have HL := Lib.hid hl
  clear pk
  have ol : o ≤ 4294967295 := by omega
  clear hl
  go_enter Tryd.func25, Tryd.ntmps25
  go_wp2_with fail
  refine (RZ.out _).mono ?_
  rintro e w1 ⟨rfl, hb⟩
  obtain ⟨hc1, hf1⟩ := bcell hb
  have hz1 := hb.size
  simp only [World.size_alloc] at hc1 hf1 hz1
  have hz1' : w.heap.size < w1.heap.size := by omega
  go_wp2_with fail
  refine (RR.out _).mono ?_
  rintro e w2 ⟨rfl, hb2⟩
  obtain ⟨hc2, hf2⟩ := bcell hb2
  have hz2 := hb2.size
  have hz2' : w.heap.size < w2.heap.size := by omega
  have BB : Hid (Below w.heap.size w w2) := Lib.hid ((((Below.refl _ _).alloc (Nat.le_refl _) _).trans (hb.mono (by simp))).trans (hb2.mono (by omega)))
  have q1 : w2.cell? ⟨w.heap.size, 1, none⟩ = some (.int .i64 rd) := by rw [hc2 _ _ (by omega), hc1 _ _ (by omega)]; simp [go_sem]
  have q2 : w2.cell? ⟨w.heap.size, 2, none⟩ = some (.int .i64 r1) := by rw [hc2 _ _ (by omega), hc1 _ _ (by omega)]; simp [go_sem]
  have q3 : w2.cell? ⟨w.heap.size, 3, none⟩ = some (.int .i64 r2) := by rw [hc2 _ _ (by omega), hc1 _ _ (by omega)]; simp [go_sem]
  have q4 : w2.cell? ⟨w.heap.size, 4, none⟩ = some (.int .i64 imm) := by rw [hc2 _ _ (by omega), hc1 _ _ (by omega)]; simp [go_sem]
  have q5 : w2.cell? ⟨w.heap.size, 5, none⟩ = some (.int .i64 csr) := by rw [hc2 _ _ (by omega), hc1 _ _ (by omega)]; simp [go_sem]
  clear hb hb2 hc1 hf1 hz1 hc2 hf2 hz2 hz1'
  go_wp2_with fail
  refine (RL.out _).mono ?_
  rintro e w3 ⟨rfl, rfl⟩
  have hl := HL.out
  have hf := HF.out
  go_wp2_with fail
  go_ret2
  exact ok_given (by omega) (BB.out.alloc (by omega) _)
set_option maxRecDepth 100000 in
set_option maxHeartbeats 4000000 in
theorem refencode_8 (op : Int) (nmv : ByteArray) (K o a b c rd r1 r2 imm csr : Int) (R : ∀ w, Calls Tryd.prog 29 #[.int .i64 op] w fun e w' => e = .returned (.tuple #[.agg #[.string nmv, .int .i64 8, .int .i64 o, .int .i64 a, .int .i64 b, .int .u32 c], .bool true]) ∧ Below w.heap.size w w')
    (hp : partsOk 8 K o a b c = true) (hz : ∀ w, Calls Tryd.prog 26 #[.agg #[.int .i64 op, .int .i64 rd, .int .i64 r1, .int .i64 r2, .int .i64 imm, .int .i64 csr]] w (TwoPost (0, 0) w))
    (h0 : okF 8 0 rd) (h1 : okF 8 1 r1) (h2 : okF 8 2 r2) (h3 : okF 8 3 csr) (hl : K + rd * 128 + r1 * 32768 + r2 * 1048576 + csr * 1048576 + immI 8 imm < 4294967296) (hi : immOk 8 imm) (w : World) :
    Calls Tryd.prog 25 #[.agg #[.int .i64 op, .int .i64 rd, .int .i64 r1, .int .i64 r2, .int .i64 imm, .int .i64 csr]] w (OkPost (K + rd * 128 + r1 * 32768 + r2 * 1048576 + csr * 1048576 + immI 8 imm) true w) := by
  have RR := Lib.hid R
  have RZ := Lib.hid hz
  clear R hz
  have pp : (0 ≤ o ∧ o < 128 ∧ 0 ≤ a ∧ a < 8 ∧ 0 ≤ b ∧ b < 128) ∧ K = o := by simpa [partsOk] using hp
  obtain ⟨⟨o0, o1, a0, a1, b0, b1⟩, pk⟩ := pp
  have l0 : 0 ≤ rd ∧ rd ≤ 31 := h0; have l1 : 0 ≤ r1 ∧ r1 ≤ 0 := h1; have l2 : 0 ≤ r2 ∧ r2 ≤ 0 := h2; have l3 : 0 ≤ csr ∧ csr ≤ 0 := h3
  clear h0 h1 h2 h3 hp hi
  obtain ⟨l00, l01⟩ := l0; obtain ⟨l10, l11⟩ := l1; obtain ⟨l20, l21⟩ := l2; obtain ⟨l30, l31⟩ := l3
  have mn := immI_nn 8 imm
  have RL := Lib.hid (fun w => laid_at 8 (by decide) (by decide) imm w)
  generalize immI 8 imm = m at *
  have HF := Lib.hid pk
  have HL := Lib.hid hl
  clear pk
  have ol : o ≤ 4294967295 := by omega
  clear hl
  go_enter Tryd.func25, Tryd.ntmps25
  go_wp2_with fail
  refine (RZ.out _).mono ?_
  rintro e w1 ⟨rfl, hb⟩
  obtain ⟨hc1, hf1⟩ := bcell hb
  have hz1 := hb.size
  simp only [World.size_alloc] at hc1 hf1 hz1
  have hz1' : w.heap.size < w1.heap.size := by omega
  go_wp2_with fail
  refine (RR.out _).mono ?_
  rintro e w2 ⟨rfl, hb2⟩
  obtain ⟨hc2, hf2⟩ := bcell hb2
  have hz2 := hb2.size
  have hz2' : w.heap.size < w2.heap.size := by omega
  have BB : Hid (Below w.heap.size w w2) := Lib.hid ((((Below.refl _ _).alloc (Nat.le_refl _) _).trans (hb.mono (by simp))).trans (hb2.mono (by omega)))
  have q1 : w2.cell? ⟨w.heap.size, 1, none⟩ = some (.int .i64 rd) := by rw [hc2 _ _ (by omega), hc1 _ _ (by omega)]; simp [go_sem]
  have q2 : w2.cell? ⟨w.heap.size, 2, none⟩ = some (.int .i64 r1) := by rw [hc2 _ _ (by omega), hc1 _ _ (by omega)]; simp [go_sem]
  have q3 : w2.cell? ⟨w.heap.size, 3, none⟩ = some (.int .i64 r2) := by rw [hc2 _ _ (by omega), hc1 _ _ (by omega)]; simp [go_sem]
  have q4 : w2.cell? ⟨w.heap.size, 4, none⟩ = some (.int .i64 imm) := by rw [hc2 _ _ (by omega), hc1 _ _ (by omega)]; simp [go_sem]
  have q5 : w2.cell? ⟨w.heap.size, 5, none⟩ = some (.int .i64 csr) := by rw [hc2 _ _ (by omega), hc1 _ _ (by omega)]; simp [go_sem]
  clear hb hb2 hc1 hf1 hz1 hc2 hf2 hz2 hz1'
  go_wp2_with fail
  refine (RL.out _).mono ?_
  rintro e w3 ⟨rfl, rfl⟩
  have hl := HL.out
  have hf := HF.out
  go_wp2_with fail
  go_ret2
  exact ok_given (by omega) (BB.out.alloc (by omega) _)
set_option maxRecDepth 100000 in
set_option maxHeartbeats 4000000 in
theorem refencode_9 (op : Int) (nmv : ByteArray) (K o a b c rd r1 r2 imm csr : Int) (R : ∀ w, Calls Tryd.prog 29 #[.int .i64 op] w fun e w' => e = .returned (.tuple #[.agg #[.string nmv, .int .i64 9, .int .i64 o, .int .i64 a, .int .i64 b, .int .u32 c], .bool true]) ∧ Below w.heap.size w w')
    (hp : partsOk 9 K o a b c = true) (hz : ∀ w, Calls Tryd.prog 26 #[.agg #[.int .i64 op, .int .i64 rd, .int .i64 r1, .int .i64 r2, .int .i64 imm, .int .i64 csr]] w (TwoPost (0, 0) w))
    (h0 : okF 9 0 rd) (h1 : okF 9 1 r1) (h2 : okF 9 2 r2) (h3 : okF 9 3 csr) (hl : K + rd * 128 + r1 * 32768 + r2 * 1048576 + csr * 1048576 + immI 9 imm < 4294967296) (hi : immOk 9 imm) (w : World) :
    Calls Tryd.prog 25 #[.agg #[.int .i64 op, .int .i64 rd, .int .i64 r1, .int .i64 r2, .int .i64 imm, .int .i64 csr]] w (OkPost (K + rd * 128 + r1 * 32768 + r2 * 1048576 + csr * 1048576 + immI 9 imm) true w) := by
  have RR := Lib.hid R
  have RZ := Lib.hid hz
  clear R hz
  have pp : (0 ≤ o ∧ o < 128 ∧ 0 ≤ a ∧ a < 8 ∧ 0 ≤ b ∧ b < 128) ∧ K = o := by simpa [partsOk] using hp
  obtain ⟨⟨o0, o1, a0, a1, b0, b1⟩, pk⟩ := pp
  have l0 : 0 ≤ rd ∧ rd ≤ 31 := h0; have l1 : 0 ≤ r1 ∧ r1 ≤ 0 := h1; have l2 : 0 ≤ r2 ∧ r2 ≤ 0 := h2; have l3 : 0 ≤ csr ∧ csr ≤ 0 := h3
  clear h0 h1 h2 h3 hp hi
  obtain ⟨l00, l01⟩ := l0; obtain ⟨l10, l11⟩ := l1; obtain ⟨l20, l21⟩ := l2; obtain ⟨l30, l31⟩ := l3
  have mn := immI_nn 9 imm
  have RL := Lib.hid (fun w => laid_at 9 (by decide) (by decide) imm w)
  generalize immI 9 imm = m at *
  have HF := Lib.hid pk
  have HL := Lib.hid hl
  clear pk
  have ol : o ≤ 4294967295 := by omega
  clear hl
  go_enter Tryd.func25, Tryd.ntmps25
  go_wp2_with fail
  refine (RZ.out _).mono ?_
  rintro e w1 ⟨rfl, hb⟩
  obtain ⟨hc1, hf1⟩ := bcell hb
  have hz1 := hb.size
  simp only [World.size_alloc] at hc1 hf1 hz1
  have hz1' : w.heap.size < w1.heap.size := by omega
  go_wp2_with fail
  refine (RR.out _).mono ?_
  rintro e w2 ⟨rfl, hb2⟩
  obtain ⟨hc2, hf2⟩ := bcell hb2
  have hz2 := hb2.size
  have hz2' : w.heap.size < w2.heap.size := by omega
  have BB : Hid (Below w.heap.size w w2) := Lib.hid ((((Below.refl _ _).alloc (Nat.le_refl _) _).trans (hb.mono (by simp))).trans (hb2.mono (by omega)))
  have q1 : w2.cell? ⟨w.heap.size, 1, none⟩ = some (.int .i64 rd) := by rw [hc2 _ _ (by omega), hc1 _ _ (by omega)]; simp [go_sem]
  have q2 : w2.cell? ⟨w.heap.size, 2, none⟩ = some (.int .i64 r1) := by rw [hc2 _ _ (by omega), hc1 _ _ (by omega)]; simp [go_sem]
  have q3 : w2.cell? ⟨w.heap.size, 3, none⟩ = some (.int .i64 r2) := by rw [hc2 _ _ (by omega), hc1 _ _ (by omega)]; simp [go_sem]
  have q4 : w2.cell? ⟨w.heap.size, 4, none⟩ = some (.int .i64 imm) := by rw [hc2 _ _ (by omega), hc1 _ _ (by omega)]; simp [go_sem]
  have q5 : w2.cell? ⟨w.heap.size, 5, none⟩ = some (.int .i64 csr) := by rw [hc2 _ _ (by omega), hc1 _ _ (by omega)]; simp [go_sem]
  clear hb hb2 hc1 hf1 hz1 hc2 hf2 hz2 hz1'
  go_wp2_with fail
  refine (RL.out _).mono ?_
  rintro e w3 ⟨rfl, rfl⟩
  have hl := HL.out
  have hf := HF.out
  go_wp2_with fail
  go_ret2
  exact ok_given (by omega) (BB.out.alloc (by omega) _)
set_option maxRecDepth 100000 in
set_option maxHeartbeats 4000000 in
theorem refencode_10 (op : Int) (nmv : ByteArray) (K o a b c rd r1 r2 imm csr : Int) (R : ∀ w, Calls Tryd.prog 29 #[.int .i64 op] w fun e w' => e = .returned (.tuple #[.agg #[.string nmv, .int .i64 10, .int .i64 o, .int .i64 a, .int .i64 b, .int .u32 c], .bool true]) ∧ Below w.heap.size w w')
    (hp : partsOk 10 K o a b c = true) (hz : ∀ w, Calls Tryd.prog 26 #[.agg #[.int .i64 op, .int .i64 rd, .int .i64 r1, .int .i64 r2, .int .i64 imm, .int .i64 csr]] w (TwoPost (0, 0) w))
    (h0 : okF 10 0 rd) (h1 : okF 10 1 r1) (h2 : okF 10 2 r2) (h3 : okF 10 3 csr) (hl : K + rd * 128 + r1 * 32768 + r2 * 1048576 + csr * 1048576 + immI 10 imm < 4294967296) (hi : immOk 10 imm) (w : World) :
    Calls Tryd.prog 25 #[.agg #[.int .i64 op, .int .i64 rd, .int .i64 r1, .int .i64 r2, .int .i64 imm, .int .i64 csr]] w (OkPost (K + rd * 128 + r1 * 32768 + r2 * 1048576 + csr * 1048576 + immI 10 imm) true w) := by
  have RR := Lib.hid R
  have RZ := Lib.hid hz
  clear R hz
  have pp : (0 ≤ o ∧ o < 128 ∧ 0 ≤ a ∧ a < 8 ∧ 0 ≤ b ∧ b < 128) ∧ K = o + a * 4096 := by simpa [partsOk] using hp
  obtain ⟨⟨o0, o1, a0, a1, b0, b1⟩, pk⟩ := pp
  have l0 : 0 ≤ rd ∧ rd ≤ 31 := h0; have l1 : 0 ≤ r1 ∧ r1 ≤ 31 := h1; have l2 : 0 ≤ r2 ∧ r2 ≤ 0 := h2; have l3 : 0 ≤ csr ∧ csr ≤ 0 := h3
  clear h0 h1 h2 h3 hp hi
  obtain ⟨l00, l01⟩ := l0; obtain ⟨l10, l11⟩ := l1; obtain ⟨l20, l21⟩ := l2; obtain ⟨l30, l31⟩ := l3
  have mn := immI_nn 10 imm
  have RL := Lib.hid (fun w => laid_at 10 (by decide) (by decide) imm w)
  generalize immI 10 imm = m at *
  have HF := Lib.hid pk
  have HL := Lib.hid hl
  clear pk
  have ol : o ≤ 4294967295 := by omega
  clear hl
  go_enter Tryd.func25, Tryd.ntmps25
  go_wp2_with fail
  refine (RZ.out _).mono ?_
  rintro e w1 ⟨rfl, hb⟩
  obtain ⟨hc1, hf1⟩ := bcell hb
  have hz1 := hb.size
  simp only [World.size_alloc] at hc1 hf1 hz1
  have hz1' : w.heap.size < w1.heap.size := by omega
  go_wp2_with fail
  refine (RR.out _).mono ?_
  rintro e w2 ⟨rfl, hb2⟩
  obtain ⟨hc2, hf2⟩ := bcell hb2
  have hz2 := hb2.size
  have hz2' : w.heap.size < w2.heap.size := by omega
  have BB : Hid (Below w.heap.size w w2) := Lib.hid ((((Below.refl _ _).alloc (Nat.le_refl _) _).trans (hb.mono (by simp))).trans (hb2.mono (by omega)))
  have q1 : w2.cell? ⟨w.heap.size, 1, none⟩ = some (.int .i64 rd) := by rw [hc2 _ _ (by omega), hc1 _ _ (by omega)]; simp [go_sem]
  have q2 : w2.cell? ⟨w.heap.size, 2, none⟩ = some (.int .i64 r1) := by rw [hc2 _ _ (by omega), hc1 _ _ (by omega)]; simp [go_sem]
  have q3 : w2.cell? ⟨w.heap.size, 3, none⟩ = some (.int .i64 r2) := by rw [hc2 _ _ (by omega), hc1 _ _ (by omega)]; simp [go_sem]
  have q4 : w2.cell? ⟨w.heap.size, 4, none⟩ = some (.int .i64 imm) := by rw [hc2 _ _ (by omega), hc1 _ _ (by omega)]; simp [go_sem]
  have q5 : w2.cell? ⟨w.heap.size, 5, none⟩ = some (.int .i64 csr) := by rw [hc2 _ _ (by omega), hc1 _ _ (by omega)]; simp [go_sem]
  clear hb hb2 hc1 hf1 hz1 hc2 hf2 hz2 hz1'
  go_wp2_with fail
  refine (RL.out _).mono ?_
  rintro e w3 ⟨rfl, rfl⟩
  have hl := HL.out
  have hf := HF.out
  go_wp2_with fail
  go_ret2
  exact ok_given (by omega) (BB.out.alloc (by omega) _)
set_option maxRecDepth 100000 in
set_option maxHeartbeats 4000000 in
theorem refencode_11 (op : Int) (nmv : ByteArray) (K o a b c rd r1 r2 imm csr : Int) (R : ∀ w, Calls Tryd.prog 29 #[.int .i64 op] w fun e w' => e = .returned (.tuple #[.agg #[.string nmv, .int .i64 11, .int .i64 o, .int .i64 a, .int .i64 b, .int .u32 c], .bool true]) ∧ Below w.heap.size w w')
    (hp : partsOk 11 K o a b c = true) (hz : ∀ w, Calls Tryd.prog 26 #[.agg #[.int .i64 op, .int .i64 rd, .int .i64 r1, .int .i64 r2, .int .i64 imm, .int .i64 csr]] w (TwoPost (0, 0) w))
    (h0 : okF 11 0 rd) (h1 : okF 11 1 r1) (h2 : okF 11 2 r2) (h3 : okF 11 3 csr) (hl : K + rd * 128 + r1 * 32768 + r2 * 1048576 + csr * 1048576 + immI 11 imm < 4294967296) (hi : immOk 11 imm) (w : World) :
    Calls Tryd.prog 25 #[.agg #[.int .i64 op, .int .i64 rd, .int .i64 r1, .int .i64 r2, .int .i64 imm, .int .i64 csr]] w (OkPost (K + rd * 128 + r1 * 32768 + r2 * 1048576 + csr * 1048576 + immI 11 imm) true w) := by
  have RR := Lib.hid R
  have RZ := Lib.hid hz
  clear R hz
  have pp : (0 ≤ o ∧ o < 128 ∧ 0 ≤ a ∧ a < 8 ∧ 0 ≤ b ∧ b < 128) ∧ K = c := by simpa [partsOk] using hp
  obtain ⟨⟨o0, o1, a0, a1, b0, b1⟩, pk⟩ := pp
  have l0 : 0 ≤ rd ∧ rd ≤ 0 := h0; have l1 : 0 ≤ r1 ∧ r1 ≤ 0 := h1; have l2 : 0 ≤ r2 ∧ r2 ≤ 0 := h2; have l3 : 0 ≤ csr ∧ csr ≤ 0 := h3
  clear h0 h1 h2 h3 hp hi
  obtain ⟨l00, l01⟩ := l0; obtain ⟨l10, l11⟩ := l1; obtain ⟨l20, l21⟩ := l2; obtain ⟨l30, l31⟩ := l3
  have mn := immI_nn 11 imm
  have RL := Lib.hid (fun w => laid_at 11 (by decide) (by decide) imm w)
  have mz : immI 11 imm = 0 := rfl
  generalize immI 11 imm = m at *
  have HF := Lib.hid pk
  have HL := Lib.hid hl
  clear pk
  have ol : o ≤ 4294967295 := by omega
  clear hl
  go_enter Tryd.func25, Tryd.ntmps25
  go_wp2_with fail
  refine (RZ.out _).mono ?_
  rintro e w1 ⟨rfl, hb⟩
  obtain ⟨hc1, hf1⟩ := bcell hb
  have hz1 := hb.size
  simp only [World.size_alloc] at hc1 hf1 hz1
  have hz1' : w.heap.size < w1.heap.size := by omega
  go_wp2_with fail
  refine (RR.out _).mono ?_
  rintro e w2 ⟨rfl, hb2⟩
  obtain ⟨hc2, hf2⟩ := bcell hb2
  have hz2 := hb2.size
  have hz2' : w.heap.size < w2.heap.size := by omega
  have BB : Hid (Below w.heap.size w w2) := Lib.hid ((((Below.refl _ _).alloc (Nat.le_refl _) _).trans (hb.mono (by simp))).trans (hb2.mono (by omega)))
  have q1 : w2.cell? ⟨w.heap.size, 1, none⟩ = some (.int .i64 rd) := by rw [hc2 _ _ (by omega), hc1 _ _ (by omega)]; simp [go_sem]
  have q2 : w2.cell? ⟨w.heap.size, 2, none⟩ = some (.int .i64 r1) := by rw [hc2 _ _ (by omega), hc1 _ _ (by omega)]; simp [go_sem]
  have q3 : w2.cell? ⟨w.heap.size, 3, none⟩ = some (.int .i64 r2) := by rw [hc2 _ _ (by omega), hc1 _ _ (by omega)]; simp [go_sem]
  have q4 : w2.cell? ⟨w.heap.size, 4, none⟩ = some (.int .i64 imm) := by rw [hc2 _ _ (by omega), hc1 _ _ (by omega)]; simp [go_sem]
  have q5 : w2.cell? ⟨w.heap.size, 5, none⟩ = some (.int .i64 csr) := by rw [hc2 _ _ (by omega), hc1 _ _ (by omega)]; simp [go_sem]
  clear hb hb2 hc1 hf1 hz1 hc2 hf2 hz2 hz1'
  go_wp2_with fail
  have hl := HL.out
  have hf := HF.out
  go_ret2
  exact ok_given (by omega) (BB.out.alloc (by omega) _)
set_option maxRecDepth 100000 in
set_option maxHeartbeats 4000000 in
theorem refencode_12 (op : Int) (nmv : ByteArray) (K o a b c rd r1 r2 imm csr : Int) (R : ∀ w, Calls Tryd.prog 29 #[.int .i64 op] w fun e w' => e = .returned (.tuple #[.agg #[.string nmv, .int .i64 12, .int .i64 o, .int .i64 a, .int .i64 b, .int .u32 c], .bool true]) ∧ Below w.heap.size w w')
    (hp : partsOk 12 K o a b c = true) (hz : ∀ w, Calls Tryd.prog 26 #[.agg #[.int .i64 op, .int .i64 rd, .int .i64 r1, .int .i64 r2, .int .i64 imm, .int .i64 csr]] w (TwoPost (0, 0) w))
    (h0 : okF 12 0 rd) (h1 : okF 12 1 r1) (h2 : okF 12 2 r2) (h3 : okF 12 3 csr) (hl : K + rd * 128 + r1 * 32768 + r2 * 1048576 + csr * 1048576 + immI 12 imm < 4294967296) (hi : immOk 12 imm) (w : World) :
    Calls Tryd.prog 25 #[.agg #[.int .i64 op, .int .i64 rd, .int .i64 r1, .int .i64 r2, .int .i64 imm, .int .i64 csr]] w (OkPost (K + rd * 128 + r1 * 32768 + r2 * 1048576 + csr * 1048576 + immI 12 imm) true w) := by
  have RR := Lib.hid R
  have RZ := Lib.hid hz
  clear R hz
  have pp : (0 ≤ o ∧ o < 128 ∧ 0 ≤ a ∧ a < 8 ∧ 0 ≤ b ∧ b < 128) ∧ K = o + a * 4096 + b * 33554432 := by simpa [partsOk] using hp
  obtain ⟨⟨o0, o1, a0, a1, b0, b1⟩, pk⟩ := pp
  have l0 : 0 ≤ rd ∧ rd ≤ 0 := h0; have l1 : 0 ≤ r1 ∧ r1 ≤ 31 := h1; have l2 : 0 ≤ r2 ∧ r2 ≤ 31 := h2; have l3 : 0 ≤ csr ∧ csr ≤ 0 := h3
  clear h0 h1 h2 h3 hp hi
  obtain ⟨l00, l01⟩ := l0; obtain ⟨l10, l11⟩ := l1; obtain ⟨l20, l21⟩ := l2; obtain ⟨l30, l31⟩ := l3
  have mn := immI_nn 12 imm
  have RL := Lib.hid (fun w => laid_at 12 (by decide) (by decide) imm w)
  generalize immI 12 imm = m at *
  have HF := Lib.hid pk
  have HL := Lib.hid hl
  clear pk
  have ol : o ≤ 4294967295 := by omega
  clear hl
  go_enter Tryd.func25, Tryd.ntmps25
  go_wp2_with fail
  refine (RZ.out _).mono ?_
  rintro e w1 ⟨rfl, hb⟩
  obtain ⟨hc1, hf1⟩ := bcell hb
  have hz1 := hb.size
  simp only [World.size_alloc] at hc1 hf1 hz1
  have hz1' : w.heap.size < w1.heap.size := by omega
  go_wp2_with fail
  refine (RR.out _).mono ?_
  rintro e w2 ⟨rfl, hb2⟩
  obtain ⟨hc2, hf2⟩ := bcell hb2
  have hz2 := hb2.size
  have hz2' : w.heap.size < w2.heap.size := by omega
  have BB : Hid (Below w.heap.size w w2) := Lib.hid ((((Below.refl _ _).alloc (Nat.le_refl _) _).trans (hb.mono (by simp))).trans (hb2.mono (by omega)))
  have q1 : w2.cell? ⟨w.heap.size, 1, none⟩ = some (.int .i64 rd) := by rw [hc2 _ _ (by omega), hc1 _ _ (by omega)]; simp [go_sem]
  have q2 : w2.cell? ⟨w.heap.size, 2, none⟩ = some (.int .i64 r1) := by rw [hc2 _ _ (by omega), hc1 _ _ (by omega)]; simp [go_sem]
  have q3 : w2.cell? ⟨w.heap.size, 3, none⟩ = some (.int .i64 r2) := by rw [hc2 _ _ (by omega), hc1 _ _ (by omega)]; simp [go_sem]
  have q4 : w2.cell? ⟨w.heap.size, 4, none⟩ = some (.int .i64 imm) := by rw [hc2 _ _ (by omega), hc1 _ _ (by omega)]; simp [go_sem]
  have q5 : w2.cell? ⟨w.heap.size, 5, none⟩ = some (.int .i64 csr) := by rw [hc2 _ _ (by omega), hc1 _ _ (by omega)]; simp [go_sem]
  clear hb hb2 hc1 hf1 hz1 hc2 hf2 hz2 hz1'
  go_wp2_with fail
  refine (RL.out _).mono ?_
  rintro e w3 ⟨rfl, rfl⟩
  have hl := HL.out
  have hf := HF.out
  go_wp2_with fail
  go_ret2
  exact ok_given (by omega) (BB.out.alloc (by omega) _)
set_option maxRecDepth 100000 in
set_option maxHeartbeats 4000000 in
theorem refencode_13 (op : Int) (nmv : ByteArray) (K o a b c rd r1 r2 imm csr : Int) (R : ∀ w, Calls Tryd.prog 29 #[.int .i64 op] w fun e w' => e = .returned (.tuple #[.agg #[.string nmv, .int .i64 13, .int .i64 o, .int .i64 a, .int .i64 b, .int .u32 c], .bool true]) ∧ Below w.heap.size w w')
    (hp : partsOk 13 K o a b c = true) (hz : ∀ w, Calls Tryd.prog 26 #[.agg #[.int .i64 op, .int .i64 rd, .int .i64 r1, .int .i64 r2, .int .i64 imm, .int .i64 csr]] w (TwoPost (0, 0) w))
    (h0 : okF 13 0 rd) (h1 : okF 13 1 r1) (h2 : okF 13 2 r2) (h3 : okF 13 3 csr) (hl : K + rd * 128 + r1 * 32768 + r2 * 1048576 + csr * 1048576 + immI 13 imm < 4294967296) (hi : immOk 13 imm) (w : World) :
    Calls Tryd.prog 25 #[.agg #[.int .i64 op, .int .i64 rd, .int .i64 r1, .int .i64 r2, .int .i64 imm, .int .i64 csr]] w (OkPost (K + rd * 128 + r1 * 32768 + r2 * 1048576 + csr * 1048576 + immI 13 imm) true w) := by
  have RR := Lib.hid R
  have RZ := Lib.hid hz
  clear R hz
  have pp : (0 ≤ o ∧ o < 128 ∧ 0 ≤ a ∧ a < 8 ∧ 0 ≤ b ∧ b < 128) ∧ K = o + a * 4096 := by simpa [partsOk] using hp
  obtain ⟨⟨o0, o1, a0, a1, b0, b1⟩, pk⟩ := pp
  have l0 : 0 ≤ rd ∧ rd ≤ 31 := h0; have l1 : 0 ≤ r1 ∧ r1 ≤ 31 := h1; have l2 : 0 ≤ r2 ∧ r2 ≤ 0 := h2; have l3 : 0 ≤ csr ∧ csr ≤ 4095 := h3
  clear h0 h1 h2 h3 hp hi
  obtain ⟨l00, l01⟩ := l0; obtain ⟨l10, l11⟩ := l1; obtain ⟨l20, l21⟩ := l2; obtain ⟨l30, l31⟩ := l3
  have mn := immI_nn 13 imm
  have RL := Lib.hid (fun w => laid_at 13 (by decide) (by decide) imm w)
  generalize immI 13 imm = m at *
  have HF := Lib.hid pk
  have HL := Lib.hid hl
  clear pk
  have ol : o ≤ 4294967295 := by omega
  clear hl
  go_enter Tryd.func25, Tryd.ntmps25
  go_wp2_with fail
  refine (RZ.out _).mono ?_
  rintro e w1 ⟨rfl, hb⟩
  obtain ⟨hc1, hf1⟩ := bcell hb
  have hz1 := hb.size
  simp only [World.size_alloc] at hc1 hf1 hz1
  have hz1' : w.heap.size < w1.heap.size := by omega
  go_wp2_with fail
  refine (RR.out _).mono ?_
  rintro e w2 ⟨rfl, hb2⟩
  obtain ⟨hc2, hf2⟩ := bcell hb2
  have hz2 := hb2.size
  have hz2' : w.heap.size < w2.heap.size := by omega
  have BB : Hid (Below w.heap.size w w2) := Lib.hid ((((Below.refl _ _).alloc (Nat.le_refl _) _).trans (hb.mono (by simp))).trans (hb2.mono (by omega)))
  have q1 : w2.cell? ⟨w.heap.size, 1, none⟩ = some (.int .i64 rd) := by rw [hc2 _ _ (by omega), hc1 _ _ (by omega)]; simp [go_sem]
  have q2 : w2.cell? ⟨w.heap.size, 2, none⟩ = some (.int .i64 r1) := by rw [hc2 _ _ (by omega), hc1 _ _ (by omega)]; simp [go_sem]
  have q3 : w2.cell? ⟨w.heap.size, 3, none⟩ = some (.int .i64 r2) := by rw [hc2 _ _ (by omega), hc1 _ _ (by omega)]; simp [go_sem]
  have q4 : w2.cell? ⟨w.heap.size, 4, none⟩ = some (.int .i64 imm) := by rw [hc2 _ _ (by omega), hc1 _ _ (by omega)]; simp [go_sem]
  have q5 : w2.cell? ⟨w.heap.size, 5, none⟩ = some (.int .i64 csr) := by rw [hc2 _ _ (by omega), hc1 _ _ (by omega)]; simp [go_sem]
  clear hb hb2 hc1 hf1 hz1 hc2 hf2 hz2 hz1'
  go_wp2_with fail
  refine (RL.out _).mono ?_
  rintro e w3 ⟨rfl, rfl⟩
  have hl := HL.out
  have hf := HF.out
  go_wp2_with fail
  go_ret2
  exact ok_given (by omega) (BB.out.alloc (by omega) _)
set_option maxRecDepth 100000 in
set_option maxHeartbeats 4000000 in
theorem refencode_14 (op : Int) (nmv : ByteArray) (K o a b c rd r1 r2 imm csr : Int) (R : ∀ w, Calls Tryd.prog 29 #[.int .i64 op] w fun e w' => e = .returned (.tuple #[.agg #[.string nmv, .int .i64 14, .int .i64 o, .int .i64 a, .int .i64 b, .int .u32 c], .bool true]) ∧ Below w.heap.size w w')
    (hp : partsOk 14 K o a b c = true) (hz : ∀ w, Calls Tryd.prog 26 #[.agg #[.int .i64 op, .int .i64 rd, .int .i64 r1, .int .i64 r2, .int .i64 imm, .int .i64 csr]] w (TwoPost (0, 0) w))
    (h0 : okF 14 0 rd) (h1 : okF 14 1 r1) (h2 : okF 14 2 r2) (h3 : okF 14 3 csr) (hl : K + rd * 128 + r1 * 32768 + r2 * 1048576 + csr * 1048576 + immI 14 imm < 4294967296) (hi : immOk 14 imm) (w : World) :
    Calls Tryd.prog 25 #[.agg #[.int .i64 op, .int .i64 rd, .int .i64 r1, .int .i64 r2, .int .i64 imm, .int .i64 csr]] w (OkPost (K + rd * 128 + r1 * 32768 + r2 * 1048576 + csr * 1048576 + immI 14 imm) true w) := by
  have RR := Lib.hid R
  have RZ := Lib.hid hz
  clear R hz
  have pp : (0 ≤ o ∧ o < 128 ∧ 0 ≤ a ∧ a < 8 ∧ 0 ≤ b ∧ b < 128) ∧ K = o + a * 4096 := by simpa [partsOk] using hp
  obtain ⟨⟨o0, o1, a0, a1, b0, b1⟩, pk⟩ := pp
  have l0 : 0 ≤ rd ∧ rd ≤ 31 := h0; have l1 : 0 ≤ r1 ∧ r1 ≤ 0 := h1; have l2 : 0 ≤ r2 ∧ r2 ≤ 0 := h2; have l3 : 0 ≤ csr ∧ csr ≤ 4095 := h3
  clear h0 h1 h2 h3 hp hi
  obtain ⟨l00, l01⟩ := l0; obtain ⟨l10, l11⟩ := l1; obtain ⟨l20, l21⟩ := l2; obtain ⟨l30, l31⟩ := l3
  have mn := immI_nn 14 imm
  have RL := Lib.hid (fun w => laid_at 14 (by decide) (by decide) imm w)
  generalize immI 14 imm = m at *
  have HF := Lib.hid pk
  have HL := Lib.hid hl
  clear pk
  have ol : o ≤ 4294967295 := by omega
  clear hl
  go_enter Tryd.func25, Tryd.ntmps25
  go_wp2_with fail
  refine (RZ.out _).mono ?_
  rintro e w1 ⟨rfl, hb⟩
  obtain ⟨hc1, hf1⟩ := bcell hb
  have hz1 := hb.size
  simp only [World.size_alloc] at hc1 hf1 hz1
  have hz1' : w.heap.size < w1.heap.size := by omega
  go_wp2_with fail
  refine (RR.out _).mono ?_
  rintro e w2 ⟨rfl, hb2⟩
  obtain ⟨hc2, hf2⟩ := bcell hb2
  have hz2 := hb2.size
  have hz2' : w.heap.size < w2.heap.size := by omega
  have BB : Hid (Below w.heap.size w w2) := Lib.hid ((((Below.refl _ _).alloc (Nat.le_refl _) _).trans (hb.mono (by simp))).trans (hb2.mono (by omega)))
  have q1 : w2.cell? ⟨w.heap.size, 1, none⟩ = some (.int .i64 rd) := by rw [hc2 _ _ (by omega), hc1 _ _ (by omega)]; simp [go_sem]
  have q2 : w2.cell? ⟨w.heap.size, 2, none⟩ = some (.int .i64 r1) := by rw [hc2 _ _ (by omega), hc1 _ _ (by omega)]; simp [go_sem]
  have q3 : w2.cell? ⟨w.heap.size, 3, none⟩ = some (.int .i64 r2) := by rw [hc2 _ _ (by omega), hc1 _ _ (by omega)]; simp [go_sem]
  have q4 : w2.cell? ⟨w.heap.size, 4, none⟩ = some (.int .i64 imm) := by rw [hc2 _ _ (by omega), hc1 _ _ (by omega)]; simp [go_sem]
  have q5 : w2.cell? ⟨w.heap.size, 5, none⟩ = some (.int .i64 csr) := by rw [hc2 _ _ (by omega), hc1 _ _ (by omega)]; simp [go_sem]
  clear hb hb2 hc1 hf1 hz1 hc2 hf2 hz2 hz1'
  go_wp2_with fail
  refine (RL.out _).mono ?_
  rintro e w3 ⟨rfl, rfl⟩
  have hl := HL.out
  have hf := HF.out
  go_wp2_with fail
  go_ret2
  exact ok_given (by omega) (BB.out.alloc (by omega) _)
theorem refencode_at (op : Nat) (p1 : 1 ≤ op) (p2 : op < 77) (rd r1 r2 imm csr : Int) (h0 : okF (shN op) 0 rd) (h1 : okF (shN op) 1 r1) (h2 : okF (shN op) 2 r2) (h3 : okF (shN op) 3 csr) (hi : immOk (shN op) imm) (w : World) :
    Calls Tryd.prog 25 #[.agg #[.int .i64 op, .int .i64 rd, .int .i64 r1, .int .i64 r2, .int .i64 imm, .int .i64 csr]] w (OkPost (accF (wordOf op) rd r1 r2 csr 4 + immI (shN op) imm) true w) := by
  have R := fun w => row_at op p1 p2 w
  have hl := (acc_imm op p1 p2 rd r1 r2 csr imm h0 h1 h2 h3).2.2
  have hp := word_parts op p2 p1
  have hz : ∀ w, Calls Tryd.prog 26 #[.agg #[.int .i64 op, .int .i64 rd, .int .i64 r1, .int .i64 r2, .int .i64 imm, .int .i64 csr]] w (TwoPost (0, 0) w) := fun w => by
    have := refrefuse_at op p1 p2 rd r1 r2 imm csr w
    rwa [show barF (shN op) rd r1 r2 imm csr = (0, 0) by unfold barF; rw [if_neg (not_not_intro h0), if_neg (not_not_intro h1), if_neg (not_not_intro h2), if_neg (not_not_intro h3), if_neg (not_not_intro hi)]] at this
  unfold rowCells at R
  rw [shN_eq op p2] at R
  obtain ⟨s1, s2⟩ := shN_rng op p2 p1
  generalize shN op = s at *
  rcases s14 s s1 s2 with rfl | rfl | rfl | rfl | rfl | rfl | rfl | rfl | rfl | rfl | rfl | rfl | rfl | rfl
  · exact refencode_1 op (nm op) (wordOf op) (oc op) (f3 op) (f7 op) (wd op) rd r1 r2 imm csr R hp hz h0 h1 h2 h3 hl hi w
  · exact refencode_2 op (nm op) (wordOf op) (oc op) (f3 op) (f7 op) (wd op) rd r1 r2 imm csr R hp hz h0 h1 h2 h3 hl hi w
  · exact refencode_3 op (nm op) (wordOf op) (oc op) (f3 op) (f7 op) (wd op) rd r1 r2 imm csr R hp hz h0 h1 h2 h3 hl hi w
  · exact refencode_4 op (nm op) (wordOf op) (oc op) (f3 op) (f7 op) (wd op) rd r1 r2 imm csr R hp hz h0 h1 h2 h3 hl hi w
  · exact refencode_5 op (nm op) (wordOf op) (oc op) (f3 op) (f7 op) (wd op) rd r1 r2 imm csr R hp hz h0 h1 h2 h3 hl hi w
  · exact refencode_6 op (nm op) (wordOf op) (oc op) (f3 op) (f7 op) (wd op) rd r1 r2 imm csr R hp hz h0 h1 h2 h3 hl hi w
  · exact refencode_7 op (nm op) (wordOf op) (oc op) (f3 op) (f7 op) (wd op) rd r1 r2 imm csr R hp hz h0 h1 h2 h3 hl hi w
  · exact refencode_8 op (nm op) (wordOf op) (oc op) (f3 op) (f7 op) (wd op) rd r1 r2 imm csr R hp hz h0 h1 h2 h3 hl hi w
  · exact refencode_9 op (nm op) (wordOf op) (oc op) (f3 op) (f7 op) (wd op) rd r1 r2 imm csr R hp hz h0 h1 h2 h3 hl hi w
  · exact refencode_10 op (nm op) (wordOf op) (oc op) (f3 op) (f7 op) (wd op) rd r1 r2 imm csr R hp hz h0 h1 h2 h3 hl hi w
  · exact refencode_11 op (nm op) (wordOf op) (oc op) (f3 op) (f7 op) (wd op) rd r1 r2 imm csr R hp hz h0 h1 h2 h3 hl hi w
  · exact refencode_12 op (nm op) (wordOf op) (oc op) (f3 op) (f7 op) (wd op) rd r1 r2 imm csr R hp hz h0 h1 h2 h3 hl hi w
  · exact refencode_13 op (nm op) (wordOf op) (oc op) (f3 op) (f7 op) (wd op) rd r1 r2 imm csr R hp hz h0 h1 h2 h3 hl hi w
  · exact refencode_14 op (nm op) (wordOf op) (oc op) (f3 op) (f7 op) (wd op) rd r1 r2 imm csr R hp hz h0 h1 h2 h3 hl hi w
theorem refencode_any (op rd r1 r2 imm csr : Int) (w : World) : Calls Tryd.prog 25 #[.agg #[.int .i64 op, .int .i64 rd, .int .i64 r1, .int .i64 r2, .int .i64 imm, .int .i64 csr]] w (OkPost (encR op rd r1 r2 imm csr).1 ((encR op rd r1 r2 imm csr).2.2 == 0) w) := by
  by_cases h : (barR op rd r1 r2 imm csr).2 = 0
  · obtain ⟨a1, a2⟩ := barR_zero h
    obtain ⟨k, rfl⟩ : ∃ k : Nat, op = (k : Int) := ⟨op.toNat, by omega⟩
    have hb : barR k rd r1 r2 imm csr = barF (shN k) rd r1 r2 imm csr := by unfold barR; rw [if_pos ⟨a1, a2⟩]; rfl
    obtain ⟨h0, h1, h2, h3, hi⟩ := barF_zero (by rw [← hb]; exact h)
    have := refencode_at k (by omega) (by omega) rd r1 r2 imm csr h0 h1 h2 h3 hi w
    rw [encR_bar, if_pos h, h]
    exact this
  · have := refencode_bad op rd r1 r2 imm csr h w
    rw [encR_bar, if_neg h, show ((barR op rd r1 r2 imm csr).2 == 0) = false by simpa using h]
    exact this
end Go.Proofs.YtgjiojcdifjhcaaDoor
