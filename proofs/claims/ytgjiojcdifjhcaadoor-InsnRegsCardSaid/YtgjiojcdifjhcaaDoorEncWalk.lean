/- insn.Encode, walked: what it lays down and what it refuses. By an AI agent; printed by wip/gen_encwalk.py. -/
import Derived.Test.YtgjiojcdifjhcaaDoorEnc
import Derived.Deep.RegionHeld3
import Derived.Deep.DrawnRows
set_option linter.unusedVariables false
set_option linter.unusedSimpArgs false
namespace Go.Proofs.YtgjiojcdifjhcaaDoor
open Go.RowKit
attribute [local go_sem] formCells
attribute [local go_sem ↓] Go.wp_at_zero Go.wp_at_succ
theorem idx0 (b : Nat) (w : World) : (Instr.index 87 (.agg #[.int .i64 1, .int .i64 1, .int .i64 7, .int .i64 5, .pointer (some ⟨b, 1, none⟩), .int .i64 2, .int .i64 2, .int .i64 15, .int .i64 5, .pointer (some ⟨b, 2, none⟩), .int .i64 4, .int .i64 3, .int .i64 20, .int .i64 5, .pointer (some ⟨b, 3, none⟩), .int .i64 16, .int .i64 5, .int .i64 20, .int .i64 12, .pointer (some ⟨b, 5, none⟩)]) (.int .i64 0)).run Tryd.prog w = .ok (.agg #[.int .i64 1, .int .i64 1, .int .i64 7, .int .i64 5, .pointer (some ⟨b, 1, none⟩)]) w := by kernel_rfl
theorem idx1 (b : Nat) (w : World) : (Instr.index 87 (.agg #[.int .i64 1, .int .i64 1, .int .i64 7, .int .i64 5, .pointer (some ⟨b, 1, none⟩), .int .i64 2, .int .i64 2, .int .i64 15, .int .i64 5, .pointer (some ⟨b, 2, none⟩), .int .i64 4, .int .i64 3, .int .i64 20, .int .i64 5, .pointer (some ⟨b, 3, none⟩), .int .i64 16, .int .i64 5, .int .i64 20, .int .i64 12, .pointer (some ⟨b, 5, none⟩)]) (.int .i64 1)).run Tryd.prog w = .ok (.agg #[.int .i64 2, .int .i64 2, .int .i64 15, .int .i64 5, .pointer (some ⟨b, 2, none⟩)]) w := by kernel_rfl
theorem idx2 (b : Nat) (w : World) : (Instr.index 87 (.agg #[.int .i64 1, .int .i64 1, .int .i64 7, .int .i64 5, .pointer (some ⟨b, 1, none⟩), .int .i64 2, .int .i64 2, .int .i64 15, .int .i64 5, .pointer (some ⟨b, 2, none⟩), .int .i64 4, .int .i64 3, .int .i64 20, .int .i64 5, .pointer (some ⟨b, 3, none⟩), .int .i64 16, .int .i64 5, .int .i64 20, .int .i64 12, .pointer (some ⟨b, 5, none⟩)]) (.int .i64 2)).run Tryd.prog w = .ok (.agg #[.int .i64 4, .int .i64 3, .int .i64 20, .int .i64 5, .pointer (some ⟨b, 3, none⟩)]) w := by kernel_rfl
theorem idx3 (b : Nat) (w : World) : (Instr.index 87 (.agg #[.int .i64 1, .int .i64 1, .int .i64 7, .int .i64 5, .pointer (some ⟨b, 1, none⟩), .int .i64 2, .int .i64 2, .int .i64 15, .int .i64 5, .pointer (some ⟨b, 2, none⟩), .int .i64 4, .int .i64 3, .int .i64 20, .int .i64 5, .pointer (some ⟨b, 3, none⟩), .int .i64 16, .int .i64 5, .int .i64 20, .int .i64 12, .pointer (some ⟨b, 5, none⟩)]) (.int .i64 3)).run Tryd.prog w = .ok (.agg #[.int .i64 16, .int .i64 5, .int .i64 20, .int .i64 12, .pointer (some ⟨b, 5, none⟩)]) w := by kernel_rfl
attribute [local go_sem] idx0 idx1 idx2 idx3
def EncPost (x : Int × Int × Int) (w : World) (e : Ending) (w' : World) : Prop := ∃ er, e = .returned (.tuple #[.int .u32 x.1, er]) ∧ ErrIs er x.2.1 x.2.2 w.heap.size w' ∧ Below w.heap.size w w'
theorem enc_refused {x : Int × Int × Int} {p c : Int} {w w' : World} {er : Value} (h : x = (0, p, c)) (he : ErrIs er p c w.heap.size w') (hb : Below w.heap.size w w') : EncPost x w (.returned (.tuple #[.int .u32 0, er])) w' := by
  subst h; exact ⟨er, rfl, he, hb⟩
theorem enc_given {x : Int × Int × Int} {W : Int} {w w' : World} (h : x = (W, 0, 0)) (hb : Below w.heap.size w w') : EncPost x w (.returned (.tuple #[.int .u32 W, .nilIface])) w' := by
  subst h; exact ⟨.nilIface, rfl, ErrIs.nil _ _, hb⟩
theorem enc_refused2 {x : Int × Int × Int} {p c : Int} {w wr : World} {o : Obj} (h : x = (0, p, c)) (hc : (c != 0) = true) (hb : Below w.heap.size w wr) :
    EncPost x w (.returned (.tuple #[.int .u32 0, .iface 104 (.pointer (some ⟨wr.heap.size + 1, 0, none⟩))])) ((wr.alloc o).alloc (.cells #[.string insnS, .int .i64 p, .iface 71 (.int .i64 c)] 106)) := by
  have e := ErrIs.made p c hc w.heap.size (wr.alloc o) (by simp; have := hb.size; omega)
  rw [World.size_alloc] at e
  exact enc_refused h e ((hb.alloc hb.size _).alloc (by simp; have := hb.size; omega) _)
theorem enc_refused1 {x : Int × Int × Int} {p c : Int} {w wr : World} (h : x = (0, p, c)) (hc : (c != 0) = true) (hb : Below w.heap.size w wr) :
    EncPost x w (.returned (.tuple #[.int .u32 0, .iface 104 (.pointer (some ⟨wr.heap.size, 0, none⟩))])) (wr.alloc (.cells #[.string insnS, .int .i64 p, .iface 71 (.int .i64 c)] 106)) :=
  enc_refused h (ErrIs.made p c hc w.heap.size wr hb.size) (hb.alloc hb.size _)
theorem ok_next {s : Nat} {L : List Int} {k : Nat} (h : ∀ j, j < k → okF s j (L.getD j 0)) (hk : okF s k (L.getD k 0)) (j : Nat) (hj : j ≤ k) : okF s j (L.getD j 0) := by
  rcases Nat.lt_or_ge j k with e | e
  · exact h j e
  · obtain rfl : j = k := by omega
    exact hk
section
variable (op : Nat) (h1 : 1 ≤ op) (h2 : op < 77) (rd r1 r2 imm csr : Int)
include h1 h2
theorem encR_in : encR op rd r1 r2 imm csr = (if (barF (shN op) rd r1 r2 imm csr).2 = 0 then accF (wordOf op) rd r1 r2 csr 4 + immI (shN op) imm else 0, (barF (shN op) rd r1 r2 imm csr).1, (barF (shN op) rd r1 r2 imm csr).2) := by
  unfold encR
  rw [if_pos ⟨by omega, by omega⟩]; rfl
theorem enc_bad0 (H : ∀ j, j < 0 → okF (shN op) j (([rd, r1, r2, csr] : List Int).getD j 0)) (h : ¬ okF (shN op) 0 rd) : encR op rd r1 r2 imm csr = (0, 1, 22) := by
  rw [encR_in op h1 h2, show barF (shN op) rd r1 r2 imm csr = (1, 22) by unfold barF; rw [if_pos h]]; rfl
theorem enc_bad1 (H : ∀ j, j < 1 → okF (shN op) j (([rd, r1, r2, csr] : List Int).getD j 0)) (h : ¬ okF (shN op) 1 r1) : encR op rd r1 r2 imm csr = (0, 2, 22) := by
  have a0 : okF (shN op) 0 rd := H 0 (by decide)
  rw [encR_in op h1 h2, show barF (shN op) rd r1 r2 imm csr = (2, 22) by unfold barF; rw [if_neg (not_not_intro a0), if_pos h]]; rfl
theorem enc_bad2 (H : ∀ j, j < 2 → okF (shN op) j (([rd, r1, r2, csr] : List Int).getD j 0)) (h : ¬ okF (shN op) 2 r2) : encR op rd r1 r2 imm csr = (0, 3, 22) := by
  have a0 : okF (shN op) 0 rd := H 0 (by decide)
  have a1 : okF (shN op) 1 r1 := H 1 (by decide)
  rw [encR_in op h1 h2, show barF (shN op) rd r1 r2 imm csr = (3, 22) by unfold barF; rw [if_neg (not_not_intro a0), if_neg (not_not_intro a1), if_pos h]]; rfl
theorem enc_bad3 (H : ∀ j, j < 3 → okF (shN op) j (([rd, r1, r2, csr] : List Int).getD j 0)) (h : ¬ okF (shN op) 3 csr) : encR op rd r1 r2 imm csr = (0, 5, 22) := by
  have a0 : okF (shN op) 0 rd := H 0 (by decide)
  have a1 : okF (shN op) 1 r1 := H 1 (by decide)
  have a2 : okF (shN op) 2 r2 := H 2 (by decide)
  rw [encR_in op h1 h2, show barF (shN op) rd r1 r2 imm csr = (5, 22) by unfold barF; rw [if_neg (not_not_intro a0), if_neg (not_not_intro a1), if_neg (not_not_intro a2), if_pos h]]; rfl
theorem enc_bad4 (H : ∀ j, j < 4 → okF (shN op) j (([rd, r1, r2, csr] : List Int).getD j 0)) (h : ¬ immOk (shN op) imm) : encR op rd r1 r2 imm csr = (0, 4, 23) := by
  have a0 : okF (shN op) 0 rd := H 0 (by decide)
  have a1 : okF (shN op) 1 r1 := H 1 (by decide)
  have a2 : okF (shN op) 2 r2 := H 2 (by decide)
  have a3 : okF (shN op) 3 csr := H 3 (by decide)
  rw [encR_in op h1 h2, show barF (shN op) rd r1 r2 imm csr = (4, 23) by unfold barF; rw [if_neg (not_not_intro a0), if_neg (not_not_intro a1), if_neg (not_not_intro a2), if_neg (not_not_intro a3), if_pos h]]; rfl
theorem enc_ok (H : ∀ j, j < 4 → okF (shN op) j (([rd, r1, r2, csr] : List Int).getD j 0)) (h : immOk (shN op) imm) : encR op rd r1 r2 imm csr = (bits .or .u32 (accF (wordOf op) rd r1 r2 csr 4) (immI (shN op) imm), 0, 0) := by
  have a0 : okF (shN op) 0 rd := H 0 (by decide)
  have a1 : okF (shN op) 1 r1 := H 1 (by decide)
  have a2 : okF (shN op) 2 r2 := H 2 (by decide)
  have a3 : okF (shN op) 3 csr := H 3 (by decide)
  rw [encR_in op h1 h2, show barF (shN op) rd r1 r2 imm csr = (0, 0) by unfold barF; rw [if_neg (not_not_intro a0), if_neg (not_not_intro a1), if_neg (not_not_intro a2), if_neg (not_not_intro a3), if_neg (not_not_intro h)], (acc_imm op h1 h2 rd r1 r2 csr imm a0 a1 a2 a3).1]; rfl
end
theorem step_pos : ∀ s, s < 15 → 1 ≤ fmStep s ∧ fmStep s ≤ 4096 := by decide
set_option maxRecDepth 100000 in
set_option maxHeartbeats 8000000 in
theorem encode_at (op : Nat) (h1 : 1 ≤ op) (h2 : op < 77) (rd r1 r2 imm csr : Int) (w : World) (ht : TabsW w) : Calls Tryd.prog 24 #[.agg #[.int .i64 op, .int .i64 rd, .int .i64 r1, .int .i64 r2, .int .i64 imm, .int .i64 csr]] w (EncPost (encR op rd r1 r2 imm csr) w) := by
  have HT := Lib.hid ht
  have hz3 := ht.size
  have e1 : (1 : Int) ≤ op := by omega
  have e2 : (op : Int) < 77 := by omega
  have e0 : (0 : Int) ≤ op := by omega
  have hs := shN_rng op h2 h1
  have HS := Lib.hid hs
  have H1 := Lib.hid h1
  clear hs ht h1
  go_enter Tryd.func24, Tryd.ntmps24
  go_wp2_with fail
  have B0 : Below w.heap.size w (w.alloc (.cells #[.int .i64 op, .int .i64 rd, .int .i64 r1, .int .i64 r2, .int .i64 imm, .int .i64 csr] 46)) := (Below.refl _ _).alloc (Nat.le_refl _) _
  have hblk : (w.alloc (.cells #[.int .i64 op, .int .i64 rd, .int .i64 r1, .int .i64 r2, .int .i64 imm, .int .i64 csr] 46)).heap[w.heap.size]? = some (.cells #[.int .i64 op, .int .i64 rd, .int .i64 r1, .int .i64 r2, .int .i64 imm, .int .i64 csr] 46) := heap_alloc_new w _
  have hsz : (w.alloc (.cells #[.int .i64 op, .int .i64 rd, .int .i64 r1, .int .i64 r2, .int .i64 imm, .int .i64 csr] 46)).heap.size = w.heap.size + 1 := by simp
  generalize w.alloc (.cells #[.int .i64 op, .int .i64 rd, .int .i64 r1, .int .i64 r2, .int .i64 imm, .int .i64 csr] 46) = w1 at *
  generalize hg : w.heap.size = g at *
  have HG := Lib.hid hg
  have HB := Lib.hid B0
  have HK := Lib.hid hblk
  have HZ := Lib.hid hsz
  have HT1 := Lib.hid (HT.out.after (hg ▸ B0))
  clear hg B0 hsz
  have HSof : Hid (∀ w' : World, Below w1.heap.size w1 w' → w'.cell? ⟨g, 0, none⟩ = some (.int .i64 op) ∧ w'.cell? ⟨0, op, none⟩ = some (.int .i64 ((shN op : Nat) : Int)) ∧ w'.cell? ⟨3, op, none⟩ = some (.int .u32 (wordOf op)) ∧ Below w1.heap.size w1 w') := Lib.hid fun w' hb => by
    have T' := HT1.out.after hb
    refine ⟨?_, by rw [← shN_eq op h2]; exact T'.sh op h2, T'.wd op h2, hb⟩
    have hlt : g < w1.heap.size := by rw [HZ.out]; omega
    simp [World.cell?, hb.block g hlt, HK.out]
  clear hblk
  go_region_held3 (fun w' => w'.cell? ⟨g, 0, none⟩ = some (.int .i64 op) ∧ w'.cell? ⟨0, op, none⟩ = some (.int .i64 ((shN op : Nat) : Int)) ∧ w'.cell? ⟨3, op, none⟩ = some (.int .u32 (wordOf op)) ∧ Below w1.heap.size w1 w') ((refine HSof.out _ ?_; repeat' (first | with_reducible exact Below.refl _ _ | exact Nat.le_refl _ | with_reducible refine Below.drew ?_ | with_reducible refine Below.alloc ?_ ?_ _ | with_reducible refine Below.setCell ?_ ?_ _ | with_reducible refine Below.trans ?_ (Below.mono (by assumption) ?_) | (simp; done) | (refine Nat.le_trans ?_ (Below.size (by assumption)))))) ((go_at_call 41; refine (form_at (shN op) HS.out.1 HS.out.2 _).mono ?_; rintro e w5 ⟨rfl, hb⟩; obtain ⟨hc, hf⟩ := bcell hb; have hz5 := hb.size; simp only [World.size_alloc, World.size_drew] at hc hf hz5))
  · have BH : Below w1.heap.size w1 (w5.alloc (.cells #[.int .i64 (fmFields (shN op)), .int .u32 (fmFixed (shN op)), .int .i64 (fmLeast (shN op)), .int .i64 (fmMost (shN op)), .int .i64 (fmStep (shN op)), .func (Fn.func (fmTake (shN op))) #[] #[], .func (Fn.func (fmPut (shN op))) #[] #[]] 81)) := ((Below.refl _ _).drew.trans (hb.mono (Nat.le_refl _))).alloc hz5 _
    have FA : w5.heap.size < (w5.alloc (.cells #[.int .i64 (fmFields (shN op)), .int .u32 (fmFixed (shN op)), .int .i64 (fmLeast (shN op)), .int .i64 (fmMost (shN op)), .int .i64 (fmStep (shN op)), .func (Fn.func (fmTake (shN op))) #[] #[], .func (Fn.func (fmPut (shN op))) #[] #[]] 81)).heap.size ∧ (w5.alloc (.cells #[.int .i64 (fmFields (shN op)), .int .u32 (fmFixed (shN op)), .int .i64 (fmLeast (shN op)), .int .i64 (fmMost (shN op)), .int .i64 (fmStep (shN op)), .func (Fn.func (fmTake (shN op))) #[] #[], .func (Fn.func (fmPut (shN op))) #[] #[]] 81)).cell? ⟨w5.heap.size, 0, none⟩ = some (.int .i64 (fmFields (shN op))) ∧ (w5.alloc (.cells #[.int .i64 (fmFields (shN op)), .int .u32 (fmFixed (shN op)), .int .i64 (fmLeast (shN op)), .int .i64 (fmMost (shN op)), .int .i64 (fmStep (shN op)), .func (Fn.func (fmTake (shN op))) #[] #[], .func (Fn.func (fmPut (shN op))) #[] #[]] 81)).cell? ⟨w5.heap.size, 2, none⟩ = some (.int .i64 (fmLeast (shN op))) ∧ (w5.alloc (.cells #[.int .i64 (fmFields (shN op)), .int .u32 (fmFixed (shN op)), .int .i64 (fmLeast (shN op)), .int .i64 (fmMost (shN op)), .int .i64 (fmStep (shN op)), .func (Fn.func (fmTake (shN op))) #[] #[], .func (Fn.func (fmPut (shN op))) #[] #[]] 81)).cell? ⟨w5.heap.size, 3, none⟩ = some (.int .i64 (fmMost (shN op))) ∧ (w5.alloc (.cells #[.int .i64 (fmFields (shN op)), .int .u32 (fmFixed (shN op)), .int .i64 (fmLeast (shN op)), .int .i64 (fmMost (shN op)), .int .i64 (fmStep (shN op)), .func (Fn.func (fmTake (shN op))) #[] #[], .func (Fn.func (fmPut (shN op))) #[] #[]] 81)).cell? ⟨w5.heap.size, 4, none⟩ = some (.int .i64 (fmStep (shN op))) ∧ (w5.alloc (.cells #[.int .i64 (fmFields (shN op)), .int .u32 (fmFixed (shN op)), .int .i64 (fmLeast (shN op)), .int .i64 (fmMost (shN op)), .int .i64 (fmStep (shN op)), .func (Fn.func (fmTake (shN op))) #[] #[], .func (Fn.func (fmPut (shN op))) #[] #[]] 81)).cell? ⟨w5.heap.size, 6, none⟩ = some (.func (Fn.func (fmPut (shN op))) #[] #[]) := by simp [go_sem]
    generalize (w5.alloc (.cells #[.int .i64 (fmFields (shN op)), .int .u32 (fmFixed (shN op)), .int .i64 (fmLeast (shN op)), .int .i64 (fmMost (shN op)), .int .i64 (fmStep (shN op)), .func (Fn.func (fmTake (shN op))) #[] #[], .func (Fn.func (fmPut (shN op))) #[] #[]] 81)) = w6 at *
    generalize w5.heap.size = gf at *
    clear hb hc hf hz5
    have B6 : Hid (Below (g + 1) w1 w6) := Lib.hid (HZ.out ▸ BH)
    clear BH
    obtain ⟨f0, f1, f2, f3, f4, f5⟩ := FA
    have BLK : w6.heap[g]? = some (.cells #[.int .i64 op, .int .i64 rd, .int .i64 r1, .int .i64 r2, .int .i64 imm, .int .i64 csr] 46) := by rw [B6.out.block g (by omega)]; exact HK.out
    have hg6 : g < w6.heap.size := by
      rcases Nat.lt_or_ge g w6.heap.size with e | e
      · exact e
      · simp [Array.getElem?_eq_none e] at BLK
    have q1 : w6.cell? ⟨g, 1, none⟩ = some (.int .i64 rd) := by simp [World.cell?, BLK]
    have q2 : w6.cell? ⟨g, 2, none⟩ = some (.int .i64 r1) := by simp [World.cell?, BLK]
    have q3 : w6.cell? ⟨g, 3, none⟩ = some (.int .i64 r2) := by simp [World.cell?, BLK]
    have q4 : w6.cell? ⟨g, 4, none⟩ = some (.int .i64 imm) := by simp [World.cell?, BLK]
    have q5 : w6.cell? ⟨g, 5, none⟩ = some (.int .i64 csr) := by simp [World.cell?, BLK]
    have Q := Lib.hid (And.intro f1 (And.intro f2 (And.intro f3 (And.intro f4 (And.intro f5 (And.intro q1 (And.intro q2 (And.intro q3 (And.intro q4 q5)))))))))
    clear f1 f2 f3 f4 f5 q1 q2 q3 q4 q5 BLK HSof
    have B06 : Hid (Below w.heap.size w w6) := Lib.hid (HG.out.symm ▸ HB.out.trans (B6.out.mono (Nat.le_succ g)))
    have HS6 : Hid (w.heap.size ≤ w6.heap.size) := Lib.hid B06.out.size
    go_wp2_with fail
    refine (fields_any g _).mono ?_
    rintro e w7 ⟨rfl, hb7⟩
    have HB7 := Lib.hid hb7
    clear hb7
    unfold fieldCells
    go_wp2_with fail
    go_loopw [5, 28] (fun v i wr => ∃ k : Nat, k ≤ 4 ∧ i = .int .i64 k ∧ v = .int .u32 (accF (wordOf op) rd r1 r2 csr k) ∧ (∀ j, j < k → okF (shN op) j (([rd, r1, r2, csr] : List Int).getD j 0)) ∧ Below w6.heap.size w6 wr) (fun _ i _ => 4 - (intOf i).toNat)
    case atStart => exact ⟨0, Nat.zero_le _, rfl, rfl, fun j hj => absurd hj (Nat.not_lt_zero _), HB7.out⟩
    case round =>
      obtain ⟨k, hk, rfl, rfl, hok, hbr⟩ := hrel
      obtain ⟨f1, f2, f3, f4, f5, q1, q2, q3, q4, q5⟩ := Q.out
      have hcr := (bcell hbr).1
      have f1 : wr.cell? ⟨gf, 0, none⟩ = some (.int .i64 (fmFields (shN op))) := by rw [hcr gf 0 f0]; exact f1
      have q1 : wr.cell? ⟨g, 1, none⟩ = some (.int .i64 rd) := by rw [hcr g 1 hg6]; exact q1
      have q2 : wr.cell? ⟨g, 2, none⟩ = some (.int .i64 r1) := by rw [hcr g 2 hg6]; exact q2
      have q3 : wr.cell? ⟨g, 3, none⟩ = some (.int .i64 r2) := by rw [hcr g 3 hg6]; exact q3
      have q5 : wr.cell? ⟨g, 5, none⟩ = some (.int .i64 csr) := by rw [hcr g 5 hg6]; exact q5
      have hsz := hbr.size
      have gfr : gf < wr.heap.size := by omega
      have ggr : g < wr.heap.size := by omega
      have HBR := Lib.hid hbr
      have HOK := Lib.hid hok
      clear hcr hbr hok f2 f3 f4 f5 q4
      have hk5 : k = 0 ∨ k = 1 ∨ k = 2 ∨ k = 3 ∨ k = 4 := by omega
      rcases hk5 with rfl | rfl | rfl | rfl | rfl
      · have HA := Lib.hid (has_and (shN op) (by have := HS.out; omega)).1
        cases hb : hasB (shN op) 0
        · have ha : bits .and .i64 (fmFields (shN op)) 1 = 0 := by have := HA.out; rw [hb] at this; exact this
          by_cases ok0 : okF (shN op) 0 rd
          · have HO := Lib.hid ok0
            have hle : 0 ≤ rd ∧ rd ≤ 0 := by have := HO.out; unfold okF mostF at this; rw [hb] at this; exact this
            obtain ⟨l0, l1⟩ := hle
            have HX := Lib.hid (And.intro l0 l1)
            clear ok0
            go_wp2_with fail
            go_quiet (fail)
            go_wp2_with fail
            go_roundw
            case rel => exact ⟨1, by omega, by go_num, congrArg (Value.int .u32) (acc_one op h2 0 (by omega) rd r1 r2 csr (ok_next (L := [rd, r1, r2, csr]) (k := 0) HOK.out HO.out)), fun j hj => ok_next (L := [rd, r1, r2, csr]) (k := 0) HOK.out HO.out j (by omega), below_drewN (HBR.out.alloc hsz _) _⟩
            case measure => simp [intOf]
          · have HO := Lib.hid ok0
            have hle : rd < 0 ∨ 0 < rd := by have := HO.out; unfold okF mostF at this; rw [hb] at this; have h2 : ¬ (0 ≤ rd ∧ rd ≤ 0) := this; omega
            clear ok0
            have ER := Lib.hid (enc_bad0 op H1.out h2 rd r1 r2 imm csr HOK.out HO.out)
            rcases hle with hle | hle
            · go_wp2_with fail
              refine (refuse_any 1 22 _).mono ?_
              rintro e w8 ⟨rfl, rfl⟩
              go_wp2_with fail
              go_ret2
              exact enc_refused2 ER.out rfl (B06.out.trans (HBR.out.mono HS6.out))
            · have hle0 : 0 ≤ rd := by omega
              go_wp2_with fail
              refine (refuse_any 1 22 _).mono ?_
              rintro e w8 ⟨rfl, rfl⟩
              go_wp2_with fail
              go_ret2
              exact enc_refused2 ER.out rfl (B06.out.trans (HBR.out.mono HS6.out))
        · have ha : bits .and .i64 (fmFields (shN op)) 1 = 1 := by have := HA.out; rw [hb] at this; exact this
          by_cases ok0 : okF (shN op) 0 rd
          · have HO := Lib.hid ok0
            have hle : 0 ≤ rd ∧ rd ≤ 31 := by have := HO.out; unfold okF mostF at this; rw [hb] at this; exact this
            obtain ⟨l0, l1⟩ := hle
            have HX := Lib.hid (And.intro l0 l1)
            clear ok0
            go_wp2_with fail
            go_quiet (fail)
            go_wp2_with fail
            go_roundw
            case rel => exact ⟨1, by omega, by go_num, congrArg (Value.int .u32) (acc_one op h2 0 (by omega) rd r1 r2 csr (ok_next (L := [rd, r1, r2, csr]) (k := 0) HOK.out HO.out)), fun j hj => ok_next (L := [rd, r1, r2, csr]) (k := 0) HOK.out HO.out j (by omega), below_drewN (HBR.out.alloc hsz _) _⟩
            case measure => simp [intOf]
          · have HO := Lib.hid ok0
            have hle : rd < 0 ∨ 31 < rd := by have := HO.out; unfold okF mostF at this; rw [hb] at this; have h2 : ¬ (0 ≤ rd ∧ rd ≤ 31) := this; omega
            clear ok0
            have ER := Lib.hid (enc_bad0 op H1.out h2 rd r1 r2 imm csr HOK.out HO.out)
            rcases hle with hle | hle
            · go_wp2_with fail
              refine (refuse_any 1 22 _).mono ?_
              rintro e w8 ⟨rfl, rfl⟩
              go_wp2_with fail
              go_ret2
              exact enc_refused2 ER.out rfl (B06.out.trans (HBR.out.mono HS6.out))
            · have hle0 : 0 ≤ rd := by omega
              go_wp2_with fail
              refine (refuse_any 1 22 _).mono ?_
              rintro e w8 ⟨rfl, rfl⟩
              go_wp2_with fail
              go_ret2
              exact enc_refused2 ER.out rfl (B06.out.trans (HBR.out.mono HS6.out))
      · have HA := Lib.hid (has_and (shN op) (by have := HS.out; omega)).2.1
        cases hb : hasB (shN op) 1
        · have ha : bits .and .i64 (fmFields (shN op)) 2 = 0 := by have := HA.out; rw [hb] at this; exact this
          by_cases ok0 : okF (shN op) 1 r1
          · have HO := Lib.hid ok0
            have hle : 0 ≤ r1 ∧ r1 ≤ 0 := by have := HO.out; unfold okF mostF at this; rw [hb] at this; exact this
            obtain ⟨l0, l1⟩ := hle
            have HX := Lib.hid (And.intro l0 l1)
            clear ok0
            go_wp2_with fail
            go_quiet (fail)
            go_wp2_with fail
            go_roundw
            case rel => exact ⟨2, by omega, by go_num, congrArg (Value.int .u32) (acc_one op h2 1 (by omega) rd r1 r2 csr (ok_next (L := [rd, r1, r2, csr]) (k := 1) HOK.out HO.out)), fun j hj => ok_next (L := [rd, r1, r2, csr]) (k := 1) HOK.out HO.out j (by omega), below_drewN (HBR.out.alloc hsz _) _⟩
            case measure => simp [intOf]
          · have HO := Lib.hid ok0
            have hle : r1 < 0 ∨ 0 < r1 := by have := HO.out; unfold okF mostF at this; rw [hb] at this; have h2 : ¬ (0 ≤ r1 ∧ r1 ≤ 0) := this; omega
            clear ok0
            have ER := Lib.hid (enc_bad1 op H1.out h2 rd r1 r2 imm csr HOK.out HO.out)
            rcases hle with hle | hle
            · go_wp2_with fail
              refine (refuse_any 2 22 _).mono ?_
              rintro e w8 ⟨rfl, rfl⟩
              go_wp2_with fail
              go_ret2
              exact enc_refused2 ER.out rfl (B06.out.trans (HBR.out.mono HS6.out))
            · have hle0 : 0 ≤ r1 := by omega
              go_wp2_with fail
              refine (refuse_any 2 22 _).mono ?_
              rintro e w8 ⟨rfl, rfl⟩
              go_wp2_with fail
              go_ret2
              exact enc_refused2 ER.out rfl (B06.out.trans (HBR.out.mono HS6.out))
        · have ha : bits .and .i64 (fmFields (shN op)) 2 = 2 := by have := HA.out; rw [hb] at this; exact this
          by_cases ok0 : okF (shN op) 1 r1
          · have HO := Lib.hid ok0
            have hle : 0 ≤ r1 ∧ r1 ≤ 31 := by have := HO.out; unfold okF mostF at this; rw [hb] at this; exact this
            obtain ⟨l0, l1⟩ := hle
            have HX := Lib.hid (And.intro l0 l1)
            clear ok0
            go_wp2_with fail
            go_quiet (fail)
            go_wp2_with fail
            go_roundw
            case rel => exact ⟨2, by omega, by go_num, congrArg (Value.int .u32) (acc_one op h2 1 (by omega) rd r1 r2 csr (ok_next (L := [rd, r1, r2, csr]) (k := 1) HOK.out HO.out)), fun j hj => ok_next (L := [rd, r1, r2, csr]) (k := 1) HOK.out HO.out j (by omega), below_drewN (HBR.out.alloc hsz _) _⟩
            case measure => simp [intOf]
          · have HO := Lib.hid ok0
            have hle : r1 < 0 ∨ 31 < r1 := by have := HO.out; unfold okF mostF at this; rw [hb] at this; have h2 : ¬ (0 ≤ r1 ∧ r1 ≤ 31) := this; omega
            clear ok0
            have ER := Lib.hid (enc_bad1 op H1.out h2 rd r1 r2 imm csr HOK.out HO.out)
            rcases hle with hle | hle
            · go_wp2_with fail
              refine (refuse_any 2 22 _).mono ?_
              rintro e w8 ⟨rfl, rfl⟩
              go_wp2_with fail
              go_ret2
              exact enc_refused2 ER.out rfl (B06.out.trans (HBR.out.mono HS6.out))
            · have hle0 : 0 ≤ r1 := by omega
              go_wp2_with fail
              refine (refuse_any 2 22 _).mono ?_
              rintro e w8 ⟨rfl, rfl⟩
              go_wp2_with fail
              go_ret2
              exact enc_refused2 ER.out rfl (B06.out.trans (HBR.out.mono HS6.out))
      · have HA := Lib.hid (has_and (shN op) (by have := HS.out; omega)).2.2.1
        cases hb : hasB (shN op) 2
        · have ha : bits .and .i64 (fmFields (shN op)) 4 = 0 := by have := HA.out; rw [hb] at this; exact this
          by_cases ok0 : okF (shN op) 2 r2
          · have HO := Lib.hid ok0
            have hle : 0 ≤ r2 ∧ r2 ≤ 0 := by have := HO.out; unfold okF mostF at this; rw [hb] at this; exact this
            obtain ⟨l0, l1⟩ := hle
            have HX := Lib.hid (And.intro l0 l1)
            clear ok0
            go_wp2_with fail
            go_quiet (fail)
            go_wp2_with fail
            go_roundw
            case rel => exact ⟨3, by omega, by go_num, congrArg (Value.int .u32) (acc_one op h2 2 (by omega) rd r1 r2 csr (ok_next (L := [rd, r1, r2, csr]) (k := 2) HOK.out HO.out)), fun j hj => ok_next (L := [rd, r1, r2, csr]) (k := 2) HOK.out HO.out j (by omega), below_drewN (HBR.out.alloc hsz _) _⟩
            case measure => simp [intOf]
          · have HO := Lib.hid ok0
            have hle : r2 < 0 ∨ 0 < r2 := by have := HO.out; unfold okF mostF at this; rw [hb] at this; have h2 : ¬ (0 ≤ r2 ∧ r2 ≤ 0) := this; omega
            clear ok0
            have ER := Lib.hid (enc_bad2 op H1.out h2 rd r1 r2 imm csr HOK.out HO.out)
            rcases hle with hle | hle
            · go_wp2_with fail
              refine (refuse_any 3 22 _).mono ?_
              rintro e w8 ⟨rfl, rfl⟩
              go_wp2_with fail
              go_ret2
              exact enc_refused2 ER.out rfl (B06.out.trans (HBR.out.mono HS6.out))
            · have hle0 : 0 ≤ r2 := by omega
              go_wp2_with fail
              refine (refuse_any 3 22 _).mono ?_
              rintro e w8 ⟨rfl, rfl⟩
              go_wp2_with fail
              go_ret2
              exact enc_refused2 ER.out rfl (B06.out.trans (HBR.out.mono HS6.out))
        · have ha : bits .and .i64 (fmFields (shN op)) 4 = 4 := by have := HA.out; rw [hb] at this; exact this
          by_cases ok0 : okF (shN op) 2 r2
          · have HO := Lib.hid ok0
            have hle : 0 ≤ r2 ∧ r2 ≤ 31 := by have := HO.out; unfold okF mostF at this; rw [hb] at this; exact this
            obtain ⟨l0, l1⟩ := hle
            have HX := Lib.hid (And.intro l0 l1)
            clear ok0
            go_wp2_with fail
            go_quiet (fail)
            go_wp2_with fail
            go_roundw
            case rel => exact ⟨3, by omega, by go_num, congrArg (Value.int .u32) (acc_one op h2 2 (by omega) rd r1 r2 csr (ok_next (L := [rd, r1, r2, csr]) (k := 2) HOK.out HO.out)), fun j hj => ok_next (L := [rd, r1, r2, csr]) (k := 2) HOK.out HO.out j (by omega), below_drewN (HBR.out.alloc hsz _) _⟩
            case measure => simp [intOf]
          · have HO := Lib.hid ok0
            have hle : r2 < 0 ∨ 31 < r2 := by have := HO.out; unfold okF mostF at this; rw [hb] at this; have h2 : ¬ (0 ≤ r2 ∧ r2 ≤ 31) := this; omega
            clear ok0
            have ER := Lib.hid (enc_bad2 op H1.out h2 rd r1 r2 imm csr HOK.out HO.out)
            rcases hle with hle | hle
            · go_wp2_with fail
              refine (refuse_any 3 22 _).mono ?_
              rintro e w8 ⟨rfl, rfl⟩
              go_wp2_with fail
              go_ret2
              exact enc_refused2 ER.out rfl (B06.out.trans (HBR.out.mono HS6.out))
            · have hle0 : 0 ≤ r2 := by omega
              go_wp2_with fail
              refine (refuse_any 3 22 _).mono ?_
              rintro e w8 ⟨rfl, rfl⟩
              go_wp2_with fail
              go_ret2
              exact enc_refused2 ER.out rfl (B06.out.trans (HBR.out.mono HS6.out))
      · have HA := Lib.hid (has_and (shN op) (by have := HS.out; omega)).2.2.2
        cases hb : hasB (shN op) 3
        · have ha : bits .and .i64 (fmFields (shN op)) 16 = 0 := by have := HA.out; rw [hb] at this; exact this
          by_cases ok0 : okF (shN op) 3 csr
          · have HO := Lib.hid ok0
            have hle : 0 ≤ csr ∧ csr ≤ 0 := by have := HO.out; unfold okF mostF at this; rw [hb] at this; exact this
            obtain ⟨l0, l1⟩ := hle
            have HX := Lib.hid (And.intro l0 l1)
            clear ok0
            go_wp2_with fail
            go_quiet (fail)
            go_wp2_with fail
            go_roundw
            case rel => exact ⟨4, by omega, by go_num, congrArg (Value.int .u32) (acc_one op h2 3 (by omega) rd r1 r2 csr (ok_next (L := [rd, r1, r2, csr]) (k := 3) HOK.out HO.out)), fun j hj => ok_next (L := [rd, r1, r2, csr]) (k := 3) HOK.out HO.out j (by omega), below_drewN (HBR.out.alloc hsz _) _⟩
            case measure => simp [intOf]
          · have HO := Lib.hid ok0
            have hle : csr < 0 ∨ 0 < csr := by have := HO.out; unfold okF mostF at this; rw [hb] at this; have h2 : ¬ (0 ≤ csr ∧ csr ≤ 0) := this; omega
            clear ok0
            have ER := Lib.hid (enc_bad3 op H1.out h2 rd r1 r2 imm csr HOK.out HO.out)
            rcases hle with hle | hle
            · go_wp2_with fail
              refine (refuse_any 5 22 _).mono ?_
              rintro e w8 ⟨rfl, rfl⟩
              go_wp2_with fail
              go_ret2
              exact enc_refused2 ER.out rfl (B06.out.trans (HBR.out.mono HS6.out))
            · have hle0 : 0 ≤ csr := by omega
              go_wp2_with fail
              refine (refuse_any 5 22 _).mono ?_
              rintro e w8 ⟨rfl, rfl⟩
              go_wp2_with fail
              go_ret2
              exact enc_refused2 ER.out rfl (B06.out.trans (HBR.out.mono HS6.out))
        · have ha : bits .and .i64 (fmFields (shN op)) 16 = 16 := by have := HA.out; rw [hb] at this; exact this
          by_cases ok0 : okF (shN op) 3 csr
          · have HO := Lib.hid ok0
            have hle : 0 ≤ csr ∧ csr ≤ 4095 := by have := HO.out; unfold okF mostF at this; rw [hb] at this; exact this
            obtain ⟨l0, l1⟩ := hle
            have HX := Lib.hid (And.intro l0 l1)
            clear ok0
            go_wp2_with fail
            go_quiet (fail)
            go_wp2_with fail
            go_roundw
            case rel => exact ⟨4, by omega, by go_num, congrArg (Value.int .u32) (acc_one op h2 3 (by omega) rd r1 r2 csr (ok_next (L := [rd, r1, r2, csr]) (k := 3) HOK.out HO.out)), fun j hj => ok_next (L := [rd, r1, r2, csr]) (k := 3) HOK.out HO.out j (by omega), below_drewN (HBR.out.alloc hsz _) _⟩
            case measure => simp [intOf]
          · have HO := Lib.hid ok0
            have hle : csr < 0 ∨ 4095 < csr := by have := HO.out; unfold okF mostF at this; rw [hb] at this; have h2 : ¬ (0 ≤ csr ∧ csr ≤ 4095) := this; omega
            clear ok0
            have ER := Lib.hid (enc_bad3 op H1.out h2 rd r1 r2 imm csr HOK.out HO.out)
            rcases hle with hle | hle
            · go_wp2_with fail
              refine (refuse_any 5 22 _).mono ?_
              rintro e w8 ⟨rfl, rfl⟩
              go_wp2_with fail
              go_ret2
              exact enc_refused2 ER.out rfl (B06.out.trans (HBR.out.mono HS6.out))
            · have hle0 : 0 ≤ csr := by omega
              go_wp2_with fail
              refine (refuse_any 5 22 _).mono ?_
              rintro e w8 ⟨rfl, rfl⟩
              go_wp2_with fail
              go_ret2
              exact enc_refused2 ER.out rfl (B06.out.trans (HBR.out.mono HS6.out))
      · have HST := Lib.hid (step_pos (shN op) (by have := HS.out; omega))
        obtain ⟨f1', f2, f3, f4, f5, q1', q2', q3', q4, q5'⟩ := Q.out
        have hcr := (bcell HBR.out).1
        have f2 : wr.cell? ⟨gf, 2, none⟩ = some (.int .i64 (fmLeast (shN op))) := by rw [hcr gf 2 f0]; exact f2
        have f3 : wr.cell? ⟨gf, 3, none⟩ = some (.int .i64 (fmMost (shN op))) := by rw [hcr gf 3 f0]; exact f3
        have f4 : wr.cell? ⟨gf, 4, none⟩ = some (.int .i64 (fmStep (shN op))) := by rw [hcr gf 4 f0]; exact f4
        have f5 : wr.cell? ⟨gf, 6, none⟩ = some (.func (Fn.func (fmPut (shN op))) #[] #[]) := by rw [hcr gf 6 f0]; exact f5
        have q4 : wr.cell? ⟨g, 4, none⟩ = some (.int .i64 imm) := by rw [hcr g 4 hg6]; exact q4
        clear hcr f1' q1' q2' q3' q5' q1 q2 q3 q5 f1
        by_cases ok0 : immOk (shN op) imm
        · have ER := Lib.hid (enc_ok op H1.out h2 rd r1 r2 imm csr HOK.out ok0)
          obtain ⟨i0, i1, i2⟩ := ok0
          have hst := HST.out.1
          have hen := put_enter (shN op) HS.out.1 HS.out.2
          go_wp2_with fail
          refine (put_any (shN op) HS.out.1 HS.out.2 imm _).mono ?_
          rintro e w8 ⟨rfl, hb8⟩
          go_wp2_with fail
          go_ret2
          exact enc_given ER.out ((B06.out.trans (HBR.out.mono HS6.out)).trans (hb8.mono (by have := HBR.out.size; have := HS6.out; omega)))
        · have ER := Lib.hid (enc_bad4 op H1.out h2 rd r1 r2 imm csr HOK.out ok0)
          have hle : imm < fmLeast (shN op) ∨ (fmLeast (shN op) ≤ imm ∧ fmMost (shN op) < imm) ∨ (fmLeast (shN op) ≤ imm ∧ imm ≤ fmMost (shN op) ∧ (imm.tmod (fmStep (shN op)) != 0) = true) := by
            unfold immOk at ok0
            by_cases a : fmLeast (shN op) ≤ imm
            · by_cases b : imm ≤ fmMost (shN op)
              · exact Or.inr (Or.inr ⟨a, b, by simpa using fun c => ok0 ⟨a, b, c⟩⟩)
              · exact Or.inr (Or.inl ⟨a, by omega⟩)
            · exact Or.inl (by omega)
          clear ok0
          have hst := HST.out.1
          rcases hle with i0 | ⟨i0, i1⟩ | ⟨i0, i1, i2⟩
          · go_wp2_with fail
            refine (refuse_any 4 23 _).mono ?_
            rintro e w8 ⟨rfl, rfl⟩
            go_wp2_with fail
            go_ret2
            exact enc_refused1 ER.out rfl (B06.out.trans (HBR.out.mono HS6.out))
          · go_wp2_with fail
            refine (refuse_any 4 23 _).mono ?_
            rintro e w8 ⟨rfl, rfl⟩
            go_wp2_with fail
            go_ret2
            exact enc_refused1 ER.out rfl (B06.out.trans (HBR.out.mono HS6.out))
          · go_wp2_with fail
            refine (refuse_any 4 23 _).mono ?_
            rintro e w8 ⟨rfl, rfl⟩
            go_wp2_with fail
            go_ret2
            exact enc_refused1 ER.out rfl (B06.out.trans (HBR.out.mono HS6.out))
  · have BH : Below w1.heap.size w1 (((((((w5.setCell ⟨w1.heap.size, 0, none⟩ (.int .i64 (fmFields (shN op)))).setCell ⟨w1.heap.size, 1, none⟩ (.int .u32 (fmFixed (shN op)))).setCell ⟨w1.heap.size, 2, none⟩ (.int .i64 (fmLeast (shN op)))).setCell ⟨w1.heap.size, 3, none⟩ (.int .i64 (fmMost (shN op)))).setCell ⟨w1.heap.size, 4, none⟩ (.int .i64 (fmStep (shN op)))).setCell ⟨w1.heap.size, 5, none⟩ (.func (Fn.func (fmTake (shN op))) #[] #[])).setCell ⟨w1.heap.size, 6, none⟩ (.func (Fn.func (fmPut (shN op))) #[] #[])) := by
      refine Below.setCell (Below.setCell (Below.setCell (Below.setCell (Below.setCell (Below.setCell (Below.setCell (((Below.refl _ _).alloc (Nat.le_refl _) _).drew.trans (hb.mono (by simp))) ?_ _) ?_ _) ?_ _) ?_ _) ?_ _) ?_ _) ?_ _ <;> exact Nat.le_refl _
    have FA : w1.heap.size < (((((((w5.setCell ⟨w1.heap.size, 0, none⟩ (.int .i64 (fmFields (shN op)))).setCell ⟨w1.heap.size, 1, none⟩ (.int .u32 (fmFixed (shN op)))).setCell ⟨w1.heap.size, 2, none⟩ (.int .i64 (fmLeast (shN op)))).setCell ⟨w1.heap.size, 3, none⟩ (.int .i64 (fmMost (shN op)))).setCell ⟨w1.heap.size, 4, none⟩ (.int .i64 (fmStep (shN op)))).setCell ⟨w1.heap.size, 5, none⟩ (.func (Fn.func (fmTake (shN op))) #[] #[])).setCell ⟨w1.heap.size, 6, none⟩ (.func (Fn.func (fmPut (shN op))) #[] #[])).heap.size ∧ (((((((w5.setCell ⟨w1.heap.size, 0, none⟩ (.int .i64 (fmFields (shN op)))).setCell ⟨w1.heap.size, 1, none⟩ (.int .u32 (fmFixed (shN op)))).setCell ⟨w1.heap.size, 2, none⟩ (.int .i64 (fmLeast (shN op)))).setCell ⟨w1.heap.size, 3, none⟩ (.int .i64 (fmMost (shN op)))).setCell ⟨w1.heap.size, 4, none⟩ (.int .i64 (fmStep (shN op)))).setCell ⟨w1.heap.size, 5, none⟩ (.func (Fn.func (fmTake (shN op))) #[] #[])).setCell ⟨w1.heap.size, 6, none⟩ (.func (Fn.func (fmPut (shN op))) #[] #[])).cell? ⟨w1.heap.size, 0, none⟩ = some (.int .i64 (fmFields (shN op))) ∧ (((((((w5.setCell ⟨w1.heap.size, 0, none⟩ (.int .i64 (fmFields (shN op)))).setCell ⟨w1.heap.size, 1, none⟩ (.int .u32 (fmFixed (shN op)))).setCell ⟨w1.heap.size, 2, none⟩ (.int .i64 (fmLeast (shN op)))).setCell ⟨w1.heap.size, 3, none⟩ (.int .i64 (fmMost (shN op)))).setCell ⟨w1.heap.size, 4, none⟩ (.int .i64 (fmStep (shN op)))).setCell ⟨w1.heap.size, 5, none⟩ (.func (Fn.func (fmTake (shN op))) #[] #[])).setCell ⟨w1.heap.size, 6, none⟩ (.func (Fn.func (fmPut (shN op))) #[] #[])).cell? ⟨w1.heap.size, 2, none⟩ = some (.int .i64 (fmLeast (shN op))) ∧ (((((((w5.setCell ⟨w1.heap.size, 0, none⟩ (.int .i64 (fmFields (shN op)))).setCell ⟨w1.heap.size, 1, none⟩ (.int .u32 (fmFixed (shN op)))).setCell ⟨w1.heap.size, 2, none⟩ (.int .i64 (fmLeast (shN op)))).setCell ⟨w1.heap.size, 3, none⟩ (.int .i64 (fmMost (shN op)))).setCell ⟨w1.heap.size, 4, none⟩ (.int .i64 (fmStep (shN op)))).setCell ⟨w1.heap.size, 5, none⟩ (.func (Fn.func (fmTake (shN op))) #[] #[])).setCell ⟨w1.heap.size, 6, none⟩ (.func (Fn.func (fmPut (shN op))) #[] #[])).cell? ⟨w1.heap.size, 3, none⟩ = some (.int .i64 (fmMost (shN op))) ∧ (((((((w5.setCell ⟨w1.heap.size, 0, none⟩ (.int .i64 (fmFields (shN op)))).setCell ⟨w1.heap.size, 1, none⟩ (.int .u32 (fmFixed (shN op)))).setCell ⟨w1.heap.size, 2, none⟩ (.int .i64 (fmLeast (shN op)))).setCell ⟨w1.heap.size, 3, none⟩ (.int .i64 (fmMost (shN op)))).setCell ⟨w1.heap.size, 4, none⟩ (.int .i64 (fmStep (shN op)))).setCell ⟨w1.heap.size, 5, none⟩ (.func (Fn.func (fmTake (shN op))) #[] #[])).setCell ⟨w1.heap.size, 6, none⟩ (.func (Fn.func (fmPut (shN op))) #[] #[])).cell? ⟨w1.heap.size, 4, none⟩ = some (.int .i64 (fmStep (shN op))) ∧ (((((((w5.setCell ⟨w1.heap.size, 0, none⟩ (.int .i64 (fmFields (shN op)))).setCell ⟨w1.heap.size, 1, none⟩ (.int .u32 (fmFixed (shN op)))).setCell ⟨w1.heap.size, 2, none⟩ (.int .i64 (fmLeast (shN op)))).setCell ⟨w1.heap.size, 3, none⟩ (.int .i64 (fmMost (shN op)))).setCell ⟨w1.heap.size, 4, none⟩ (.int .i64 (fmStep (shN op)))).setCell ⟨w1.heap.size, 5, none⟩ (.func (Fn.func (fmTake (shN op))) #[] #[])).setCell ⟨w1.heap.size, 6, none⟩ (.func (Fn.func (fmPut (shN op))) #[] #[])).cell? ⟨w1.heap.size, 6, none⟩ = some (.func (Fn.func (fmPut (shN op))) #[] #[]) := by simp [go_sem, hc]; omega
    generalize (((((((w5.setCell ⟨w1.heap.size, 0, none⟩ (.int .i64 (fmFields (shN op)))).setCell ⟨w1.heap.size, 1, none⟩ (.int .u32 (fmFixed (shN op)))).setCell ⟨w1.heap.size, 2, none⟩ (.int .i64 (fmLeast (shN op)))).setCell ⟨w1.heap.size, 3, none⟩ (.int .i64 (fmMost (shN op)))).setCell ⟨w1.heap.size, 4, none⟩ (.int .i64 (fmStep (shN op)))).setCell ⟨w1.heap.size, 5, none⟩ (.func (Fn.func (fmTake (shN op))) #[] #[])).setCell ⟨w1.heap.size, 6, none⟩ (.func (Fn.func (fmPut (shN op))) #[] #[])) = w6 at *
    generalize w1.heap.size = gf at *
    clear hb hc hf hz5
    have B6 : Hid (Below (g + 1) w1 w6) := Lib.hid (HZ.out ▸ BH)
    clear BH
    obtain ⟨f0, f1, f2, f3, f4, f5⟩ := FA
    have BLK : w6.heap[g]? = some (.cells #[.int .i64 op, .int .i64 rd, .int .i64 r1, .int .i64 r2, .int .i64 imm, .int .i64 csr] 46) := by rw [B6.out.block g (by omega)]; exact HK.out
    have hg6 : g < w6.heap.size := by
      rcases Nat.lt_or_ge g w6.heap.size with e | e
      · exact e
      · simp [Array.getElem?_eq_none e] at BLK
    have q1 : w6.cell? ⟨g, 1, none⟩ = some (.int .i64 rd) := by simp [World.cell?, BLK]
    have q2 : w6.cell? ⟨g, 2, none⟩ = some (.int .i64 r1) := by simp [World.cell?, BLK]
    have q3 : w6.cell? ⟨g, 3, none⟩ = some (.int .i64 r2) := by simp [World.cell?, BLK]
    have q4 : w6.cell? ⟨g, 4, none⟩ = some (.int .i64 imm) := by simp [World.cell?, BLK]
    have q5 : w6.cell? ⟨g, 5, none⟩ = some (.int .i64 csr) := by simp [World.cell?, BLK]
    have Q := Lib.hid (And.intro f1 (And.intro f2 (And.intro f3 (And.intro f4 (And.intro f5 (And.intro q1 (And.intro q2 (And.intro q3 (And.intro q4 q5)))))))))
    clear f1 f2 f3 f4 f5 q1 q2 q3 q4 q5 BLK HSof
    have B06 : Hid (Below w.heap.size w w6) := Lib.hid (HG.out.symm ▸ HB.out.trans (B6.out.mono (Nat.le_succ g)))
    have HS6 : Hid (w.heap.size ≤ w6.heap.size) := Lib.hid B06.out.size
    go_wp2_with fail
    refine (fields_any g _).mono ?_
    rintro e w7 ⟨rfl, hb7⟩
    have HB7 := Lib.hid hb7
    clear hb7
    unfold fieldCells
    go_wp2_with fail
    go_loopw [5, 28] (fun v i wr => ∃ k : Nat, k ≤ 4 ∧ i = .int .i64 k ∧ v = .int .u32 (accF (wordOf op) rd r1 r2 csr k) ∧ (∀ j, j < k → okF (shN op) j (([rd, r1, r2, csr] : List Int).getD j 0)) ∧ Below w6.heap.size w6 wr) (fun _ i _ => 4 - (intOf i).toNat)
    case atStart => exact ⟨0, Nat.zero_le _, rfl, rfl, fun j hj => absurd hj (Nat.not_lt_zero _), HB7.out⟩
    case round =>
      obtain ⟨k, hk, rfl, rfl, hok, hbr⟩ := hrel
      obtain ⟨f1, f2, f3, f4, f5, q1, q2, q3, q4, q5⟩ := Q.out
      have hcr := (bcell hbr).1
      have f1 : wr.cell? ⟨gf, 0, none⟩ = some (.int .i64 (fmFields (shN op))) := by rw [hcr gf 0 f0]; exact f1
      have q1 : wr.cell? ⟨g, 1, none⟩ = some (.int .i64 rd) := by rw [hcr g 1 hg6]; exact q1
      have q2 : wr.cell? ⟨g, 2, none⟩ = some (.int .i64 r1) := by rw [hcr g 2 hg6]; exact q2
      have q3 : wr.cell? ⟨g, 3, none⟩ = some (.int .i64 r2) := by rw [hcr g 3 hg6]; exact q3
      have q5 : wr.cell? ⟨g, 5, none⟩ = some (.int .i64 csr) := by rw [hcr g 5 hg6]; exact q5
      have hsz := hbr.size
      have gfr : gf < wr.heap.size := by omega
      have ggr : g < wr.heap.size := by omega
      have HBR := Lib.hid hbr
      have HOK := Lib.hid hok
      clear hcr hbr hok f2 f3 f4 f5 q4
      have hk5 : k = 0 ∨ k = 1 ∨ k = 2 ∨ k = 3 ∨ k = 4 := by omega
      rcases hk5 with rfl | rfl | rfl | rfl | rfl
      · have HA := Lib.hid (has_and (shN op) (by have := HS.out; omega)).1
        cases hb : hasB (shN op) 0
        · have ha : bits .and .i64 (fmFields (shN op)) 1 = 0 := by have := HA.out; rw [hb] at this; exact this
          by_cases ok0 : okF (shN op) 0 rd
          · have HO := Lib.hid ok0
            have hle : 0 ≤ rd ∧ rd ≤ 0 := by have := HO.out; unfold okF mostF at this; rw [hb] at this; exact this
            obtain ⟨l0, l1⟩ := hle
            have HX := Lib.hid (And.intro l0 l1)
            clear ok0
            go_wp2_with fail
            go_quiet (fail)
            go_wp2_with fail
            go_roundw
            case rel => exact ⟨1, by omega, by go_num, congrArg (Value.int .u32) (acc_one op h2 0 (by omega) rd r1 r2 csr (ok_next (L := [rd, r1, r2, csr]) (k := 0) HOK.out HO.out)), fun j hj => ok_next (L := [rd, r1, r2, csr]) (k := 0) HOK.out HO.out j (by omega), below_drewN (HBR.out.alloc hsz _) _⟩
            case measure => simp [intOf]
          · have HO := Lib.hid ok0
            have hle : rd < 0 ∨ 0 < rd := by have := HO.out; unfold okF mostF at this; rw [hb] at this; have h2 : ¬ (0 ≤ rd ∧ rd ≤ 0) := this; omega
            clear ok0
            have ER := Lib.hid (enc_bad0 op H1.out h2 rd r1 r2 imm csr HOK.out HO.out)
            rcases hle with hle | hle
            · go_wp2_with fail
              refine (refuse_any 1 22 _).mono ?_
              rintro e w8 ⟨rfl, rfl⟩
              go_wp2_with fail
              go_ret2
              exact enc_refused2 ER.out rfl (B06.out.trans (HBR.out.mono HS6.out))
            · have hle0 : 0 ≤ rd := by omega
              go_wp2_with fail
              refine (refuse_any 1 22 _).mono ?_
              rintro e w8 ⟨rfl, rfl⟩
              go_wp2_with fail
              go_ret2
              exact enc_refused2 ER.out rfl (B06.out.trans (HBR.out.mono HS6.out))
        · have ha : bits .and .i64 (fmFields (shN op)) 1 = 1 := by have := HA.out; rw [hb] at this; exact this
          by_cases ok0 : okF (shN op) 0 rd
          · have HO := Lib.hid ok0
            have hle : 0 ≤ rd ∧ rd ≤ 31 := by have := HO.out; unfold okF mostF at this; rw [hb] at this; exact this
            obtain ⟨l0, l1⟩ := hle
            have HX := Lib.hid (And.intro l0 l1)
            clear ok0
            go_wp2_with fail
            go_quiet (fail)
            go_wp2_with fail
            go_roundw
            case rel => exact ⟨1, by omega, by go_num, congrArg (Value.int .u32) (acc_one op h2 0 (by omega) rd r1 r2 csr (ok_next (L := [rd, r1, r2, csr]) (k := 0) HOK.out HO.out)), fun j hj => ok_next (L := [rd, r1, r2, csr]) (k := 0) HOK.out HO.out j (by omega), below_drewN (HBR.out.alloc hsz _) _⟩
            case measure => simp [intOf]
          · have HO := Lib.hid ok0
            have hle : rd < 0 ∨ 31 < rd := by have := HO.out; unfold okF mostF at this; rw [hb] at this; have h2 : ¬ (0 ≤ rd ∧ rd ≤ 31) := this; omega
            clear ok0
            have ER := Lib.hid (enc_bad0 op H1.out h2 rd r1 r2 imm csr HOK.out HO.out)
            rcases hle with hle | hle
            · go_wp2_with fail
              refine (refuse_any 1 22 _).mono ?_
              rintro e w8 ⟨rfl, rfl⟩
              go_wp2_with fail
              go_ret2
              exact enc_refused2 ER.out rfl (B06.out.trans (HBR.out.mono HS6.out))
            · have hle0 : 0 ≤ rd := by omega
              go_wp2_with fail
              refine (refuse_any 1 22 _).mono ?_
              rintro e w8 ⟨rfl, rfl⟩
              go_wp2_with fail
              go_ret2
              exact enc_refused2 ER.out rfl (B06.out.trans (HBR.out.mono HS6.out))
      · have HA := Lib.hid (has_and (shN op) (by have := HS.out; omega)).2.1
        cases hb : hasB (shN op) 1
        · have ha : bits .and .i64 (fmFields (shN op)) 2 = 0 := by have := HA.out; rw [hb] at this; exact this
          by_cases ok0 : okF (shN op) 1 r1
          · have HO := Lib.hid ok0
            have hle : 0 ≤ r1 ∧ r1 ≤ 0 := by have := HO.out; unfold okF mostF at this; rw [hb] at this; exact this
            obtain ⟨l0, l1⟩ := hle
            have HX := Lib.hid (And.intro l0 l1)
            clear ok0
            go_wp2_with fail
            go_quiet (fail)
            go_wp2_with fail
            go_roundw
            case rel => exact ⟨2, by omega, by go_num, congrArg (Value.int .u32) (acc_one op h2 1 (by omega) rd r1 r2 csr (ok_next (L := [rd, r1, r2, csr]) (k := 1) HOK.out HO.out)), fun j hj => ok_next (L := [rd, r1, r2, csr]) (k := 1) HOK.out HO.out j (by omega), below_drewN (HBR.out.alloc hsz _) _⟩
            case measure => simp [intOf]
          · have HO := Lib.hid ok0
            have hle : r1 < 0 ∨ 0 < r1 := by have := HO.out; unfold okF mostF at this; rw [hb] at this; have h2 : ¬ (0 ≤ r1 ∧ r1 ≤ 0) := this; omega
            clear ok0
            have ER := Lib.hid (enc_bad1 op H1.out h2 rd r1 r2 imm csr HOK.out HO.out)
            rcases hle with hle | hle
            · go_wp2_with fail
              refine (refuse_any 2 22 _).mono ?_
              rintro e w8 ⟨rfl, rfl⟩
              go_wp2_with fail
              go_ret2
              exact enc_refused2 ER.out rfl (B06.out.trans (HBR.out.mono HS6.out))
            · have hle0 : 0 ≤ r1 := by omega
              go_wp2_with fail
              refine (refuse_any 2 22 _).mono ?_
              rintro e w8 ⟨rfl, rfl⟩
              go_wp2_with fail
              go_ret2
              exact enc_refused2 ER.out rfl (B06.out.trans (HBR.out.mono HS6.out))
        · have ha : bits .and .i64 (fmFields (shN op)) 2 = 2 := by have := HA.out; rw [hb] at this; exact this
          by_cases ok0 : okF (shN op) 1 r1
          · have HO := Lib.hid ok0
            have hle : 0 ≤ r1 ∧ r1 ≤ 31 := by have := HO.out; unfold okF mostF at this; rw [hb] at this; exact this
            obtain ⟨l0, l1⟩ := hle
            have HX := Lib.hid (And.intro l0 l1)
            clear ok0
            go_wp2_with fail
            go_quiet (fail)
            go_wp2_with fail
            go_roundw
            case rel => exact ⟨2, by omega, by go_num, congrArg (Value.int .u32) (acc_one op h2 1 (by omega) rd r1 r2 csr (ok_next (L := [rd, r1, r2, csr]) (k := 1) HOK.out HO.out)), fun j hj => ok_next (L := [rd, r1, r2, csr]) (k := 1) HOK.out HO.out j (by omega), below_drewN (HBR.out.alloc hsz _) _⟩
            case measure => simp [intOf]
          · have HO := Lib.hid ok0
            have hle : r1 < 0 ∨ 31 < r1 := by have := HO.out; unfold okF mostF at this; rw [hb] at this; have h2 : ¬ (0 ≤ r1 ∧ r1 ≤ 31) := this; omega
            clear ok0
            have ER := Lib.hid (enc_bad1 op H1.out h2 rd r1 r2 imm csr HOK.out HO.out)
            rcases hle with hle | hle
            · go_wp2_with fail
              refine (refuse_any 2 22 _).mono ?_
              rintro e w8 ⟨rfl, rfl⟩
              go_wp2_with fail
              go_ret2
              exact enc_refused2 ER.out rfl (B06.out.trans (HBR.out.mono HS6.out))
            · have hle0 : 0 ≤ r1 := by omega
              go_wp2_with fail
              refine (refuse_any 2 22 _).mono ?_
              rintro e w8 ⟨rfl, rfl⟩
              go_wp2_with fail
              go_ret2
              exact enc_refused2 ER.out rfl (B06.out.trans (HBR.out.mono HS6.out))
      · have HA := Lib.hid (has_and (shN op) (by have := HS.out; omega)).2.2.1
        cases hb : hasB (shN op) 2
        · have ha : bits .and .i64 (fmFields (shN op)) 4 = 0 := by have := HA.out; rw [hb] at this; exact this
          by_cases ok0 : okF (shN op) 2 r2
          · have HO := Lib.hid ok0
            have hle : 0 ≤ r2 ∧ r2 ≤ 0 := by have := HO.out; unfold okF mostF at this; rw [hb] at this; exact this
            obtain ⟨l0, l1⟩ := hle
            have HX := Lib.hid (And.intro l0 l1)
            clear ok0
            go_wp2_with fail
            go_quiet (fail)
            go_wp2_with fail
            go_roundw
            case rel => exact ⟨3, by omega, by go_num, congrArg (Value.int .u32) (acc_one op h2 2 (by omega) rd r1 r2 csr (ok_next (L := [rd, r1, r2, csr]) (k := 2) HOK.out HO.out)), fun j hj => ok_next (L := [rd, r1, r2, csr]) (k := 2) HOK.out HO.out j (by omega), below_drewN (HBR.out.alloc hsz _) _⟩
            case measure => simp [intOf]
          · have HO := Lib.hid ok0
            have hle : r2 < 0 ∨ 0 < r2 := by have := HO.out; unfold okF mostF at this; rw [hb] at this; have h2 : ¬ (0 ≤ r2 ∧ r2 ≤ 0) := this; omega
            clear ok0
            have ER := Lib.hid (enc_bad2 op H1.out h2 rd r1 r2 imm csr HOK.out HO.out)
            rcases hle with hle | hle
            · go_wp2_with fail
              refine (refuse_any 3 22 _).mono ?_
              rintro e w8 ⟨rfl, rfl⟩
              go_wp2_with fail
              go_ret2
              exact enc_refused2 ER.out rfl (B06.out.trans (HBR.out.mono HS6.out))
            · have hle0 : 0 ≤ r2 := by omega
              go_wp2_with fail
              refine (refuse_any 3 22 _).mono ?_
              rintro e w8 ⟨rfl, rfl⟩
              go_wp2_with fail
              go_ret2
              exact enc_refused2 ER.out rfl (B06.out.trans (HBR.out.mono HS6.out))
        · have ha : bits .and .i64 (fmFields (shN op)) 4 = 4 := by have := HA.out; rw [hb] at this; exact this
          by_cases ok0 : okF (shN op) 2 r2
          · have HO := Lib.hid ok0
            have hle : 0 ≤ r2 ∧ r2 ≤ 31 := by have := HO.out; unfold okF mostF at this; rw [hb] at this; exact this
            obtain ⟨l0, l1⟩ := hle
            have HX := Lib.hid (And.intro l0 l1)
            clear ok0
            go_wp2_with fail
            go_quiet (fail)
            go_wp2_with fail
            go_roundw
            case rel => exact ⟨3, by omega, by go_num, congrArg (Value.int .u32) (acc_one op h2 2 (by omega) rd r1 r2 csr (ok_next (L := [rd, r1, r2, csr]) (k := 2) HOK.out HO.out)), fun j hj => ok_next (L := [rd, r1, r2, csr]) (k := 2) HOK.out HO.out j (by omega), below_drewN (HBR.out.alloc hsz _) _⟩
            case measure => simp [intOf]
          · have HO := Lib.hid ok0
            have hle : r2 < 0 ∨ 31 < r2 := by have := HO.out; unfold okF mostF at this; rw [hb] at this; have h2 : ¬ (0 ≤ r2 ∧ r2 ≤ 31) := this; omega
            clear ok0
            have ER := Lib.hid (enc_bad2 op H1.out h2 rd r1 r2 imm csr HOK.out HO.out)
            rcases hle with hle | hle
            · go_wp2_with fail
              refine (refuse_any 3 22 _).mono ?_
              rintro e w8 ⟨rfl, rfl⟩
              go_wp2_with fail
              go_ret2
              exact enc_refused2 ER.out rfl (B06.out.trans (HBR.out.mono HS6.out))
            · have hle0 : 0 ≤ r2 := by omega
              go_wp2_with fail
              refine (refuse_any 3 22 _).mono ?_
              rintro e w8 ⟨rfl, rfl⟩
              go_wp2_with fail
              go_ret2
              exact enc_refused2 ER.out rfl (B06.out.trans (HBR.out.mono HS6.out))
      · have HA := Lib.hid (has_and (shN op) (by have := HS.out; omega)).2.2.2
        cases hb : hasB (shN op) 3
        · have ha : bits .and .i64 (fmFields (shN op)) 16 = 0 := by have := HA.out; rw [hb] at this; exact this
          by_cases ok0 : okF (shN op) 3 csr
          · have HO := Lib.hid ok0
            have hle : 0 ≤ csr ∧ csr ≤ 0 := by have := HO.out; unfold okF mostF at this; rw [hb] at this; exact this
            obtain ⟨l0, l1⟩ := hle
            have HX := Lib.hid (And.intro l0 l1)
            clear ok0
            go_wp2_with fail
            go_quiet (fail)
            go_wp2_with fail
            go_roundw
            case rel => exact ⟨4, by omega, by go_num, congrArg (Value.int .u32) (acc_one op h2 3 (by omega) rd r1 r2 csr (ok_next (L := [rd, r1, r2, csr]) (k := 3) HOK.out HO.out)), fun j hj => ok_next (L := [rd, r1, r2, csr]) (k := 3) HOK.out HO.out j (by omega), below_drewN (HBR.out.alloc hsz _) _⟩
            case measure => simp [intOf]
          · have HO := Lib.hid ok0
            have hle : csr < 0 ∨ 0 < csr := by have := HO.out; unfold okF mostF at this; rw [hb] at this; have h2 : ¬ (0 ≤ csr ∧ csr ≤ 0) := this; omega
            clear ok0
            have ER := Lib.hid (enc_bad3 op H1.out h2 rd r1 r2 imm csr HOK.out HO.out)
            rcases hle with hle | hle
            · go_wp2_with fail
              refine (refuse_any 5 22 _).mono ?_
              rintro e w8 ⟨rfl, rfl⟩
              go_wp2_with fail
              go_ret2
              exact enc_refused2 ER.out rfl (B06.out.trans (HBR.out.mono HS6.out))
            · have hle0 : 0 ≤ csr := by omega
              go_wp2_with fail
              refine (refuse_any 5 22 _).mono ?_
              rintro e w8 ⟨rfl, rfl⟩
              go_wp2_with fail
              go_ret2
              exact enc_refused2 ER.out rfl (B06.out.trans (HBR.out.mono HS6.out))
        · have ha : bits .and .i64 (fmFields (shN op)) 16 = 16 := by have := HA.out; rw [hb] at this; exact this
          by_cases ok0 : okF (shN op) 3 csr
          · have HO := Lib.hid ok0
            have hle : 0 ≤ csr ∧ csr ≤ 4095 := by have := HO.out; unfold okF mostF at this; rw [hb] at this; exact this
            obtain ⟨l0, l1⟩ := hle
            have HX := Lib.hid (And.intro l0 l1)
            clear ok0
            go_wp2_with fail
            go_quiet (fail)
            go_wp2_with fail
            go_roundw
            case rel => exact ⟨4, by omega, by go_num, congrArg (Value.int .u32) (acc_one op h2 3 (by omega) rd r1 r2 csr (ok_next (L := [rd, r1, r2, csr]) (k := 3) HOK.out HO.out)), fun j hj => ok_next (L := [rd, r1, r2, csr]) (k := 3) HOK.out HO.out j (by omega), below_drewN (HBR.out.alloc hsz _) _⟩
            case measure => simp [intOf]
          · have HO := Lib.hid ok0
            have hle : csr < 0 ∨ 4095 < csr := by have := HO.out; unfold okF mostF at this; rw [hb] at this; have h2 : ¬ (0 ≤ csr ∧ csr ≤ 4095) := this; omega
            clear ok0
            have ER := Lib.hid (enc_bad3 op H1.out h2 rd r1 r2 imm csr HOK.out HO.out)
            rcases hle with hle | hle
            · go_wp2_with fail
              refine (refuse_any 5 22 _).mono ?_
              rintro e w8 ⟨rfl, rfl⟩
              go_wp2_with fail
              go_ret2
              exact enc_refused2 ER.out rfl (B06.out.trans (HBR.out.mono HS6.out))
            · have hle0 : 0 ≤ csr := by omega
              go_wp2_with fail
              refine (refuse_any 5 22 _).mono ?_
              rintro e w8 ⟨rfl, rfl⟩
              go_wp2_with fail
              go_ret2
              exact enc_refused2 ER.out rfl (B06.out.trans (HBR.out.mono HS6.out))
      · have HST := Lib.hid (step_pos (shN op) (by have := HS.out; omega))
        obtain ⟨f1', f2, f3, f4, f5, q1', q2', q3', q4, q5'⟩ := Q.out
        have hcr := (bcell HBR.out).1
        have f2 : wr.cell? ⟨gf, 2, none⟩ = some (.int .i64 (fmLeast (shN op))) := by rw [hcr gf 2 f0]; exact f2
        have f3 : wr.cell? ⟨gf, 3, none⟩ = some (.int .i64 (fmMost (shN op))) := by rw [hcr gf 3 f0]; exact f3
        have f4 : wr.cell? ⟨gf, 4, none⟩ = some (.int .i64 (fmStep (shN op))) := by rw [hcr gf 4 f0]; exact f4
        have f5 : wr.cell? ⟨gf, 6, none⟩ = some (.func (Fn.func (fmPut (shN op))) #[] #[]) := by rw [hcr gf 6 f0]; exact f5
        have q4 : wr.cell? ⟨g, 4, none⟩ = some (.int .i64 imm) := by rw [hcr g 4 hg6]; exact q4
        clear hcr f1' q1' q2' q3' q5' q1 q2 q3 q5 f1
        by_cases ok0 : immOk (shN op) imm
        · have ER := Lib.hid (enc_ok op H1.out h2 rd r1 r2 imm csr HOK.out ok0)
          obtain ⟨i0, i1, i2⟩ := ok0
          have hst := HST.out.1
          have hen := put_enter (shN op) HS.out.1 HS.out.2
          go_wp2_with fail
          refine (put_any (shN op) HS.out.1 HS.out.2 imm _).mono ?_
          rintro e w8 ⟨rfl, hb8⟩
          go_wp2_with fail
          go_ret2
          exact enc_given ER.out ((B06.out.trans (HBR.out.mono HS6.out)).trans (hb8.mono (by have := HBR.out.size; have := HS6.out; omega)))
        · have ER := Lib.hid (enc_bad4 op H1.out h2 rd r1 r2 imm csr HOK.out ok0)
          have hle : imm < fmLeast (shN op) ∨ (fmLeast (shN op) ≤ imm ∧ fmMost (shN op) < imm) ∨ (fmLeast (shN op) ≤ imm ∧ imm ≤ fmMost (shN op) ∧ (imm.tmod (fmStep (shN op)) != 0) = true) := by
            unfold immOk at ok0
            by_cases a : fmLeast (shN op) ≤ imm
            · by_cases b : imm ≤ fmMost (shN op)
              · exact Or.inr (Or.inr ⟨a, b, by simpa using fun c => ok0 ⟨a, b, c⟩⟩)
              · exact Or.inr (Or.inl ⟨a, by omega⟩)
            · exact Or.inl (by omega)
          clear ok0
          have hst := HST.out.1
          rcases hle with i0 | ⟨i0, i1⟩ | ⟨i0, i1, i2⟩
          · go_wp2_with fail
            refine (refuse_any 4 23 _).mono ?_
            rintro e w8 ⟨rfl, rfl⟩
            go_wp2_with fail
            go_ret2
            exact enc_refused1 ER.out rfl (B06.out.trans (HBR.out.mono HS6.out))
          · go_wp2_with fail
            refine (refuse_any 4 23 _).mono ?_
            rintro e w8 ⟨rfl, rfl⟩
            go_wp2_with fail
            go_ret2
            exact enc_refused1 ER.out rfl (B06.out.trans (HBR.out.mono HS6.out))
          · go_wp2_with fail
            refine (refuse_any 4 23 _).mono ?_
            rintro e w8 ⟨rfl, rfl⟩
            go_wp2_with fail
            go_ret2
            exact enc_refused1 ER.out rfl (B06.out.trans (HBR.out.mono HS6.out))
end Go.Proofs.YtgjiojcdifjhcaaDoor
