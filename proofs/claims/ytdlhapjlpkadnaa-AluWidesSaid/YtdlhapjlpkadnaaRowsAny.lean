/- The program's Do: any operation on any two words: what it reckons, or that it is none. -/
import Derived.Test.YtdlhapjlpkadnaaDoFn

set_option linter.unusedVariables false
namespace Go.Proofs.Ytdlhapjlpkadnaa
open Go.RowKit

def opN (k : Nat) : Int := [31, 32, 36, 39, 40, 33, 37, 38, 34, 35, 50, 51, 53, 52, 54, 56, 55, 57, 45, 46, 58, 47, 48, 49, 59, 61, 60, 62].getD k 0
def fnN (k : Nat) : Nat := [44, 45, 46, 47, 48, 49, 50, 51, 52, 54, 55, 56, 58, 59, 60, 61, 62, 63].getD k 0
theorem k18 (k : Nat) (hk : k < 18) : k = 0 ∨ k = 1 ∨ k = 2 ∨ k = 3 ∨ k = 4 ∨ k = 5 ∨ k = 6 ∨ k = 7 ∨ k = 8 ∨ k = 9 ∨ k = 10 ∨ k = 11 ∨ k = 12 ∨ k = 13 ∨ k = 14 ∨ k = 15 ∨ k = 16 ∨ k = 17 := by omega
theorem do_fn (k : Nat) (hk : k < 18) (a b : Int) (ha : Word a) (hb : Word b) (w : World) : Calls Try.prog (fnN k) #[.int .u64 a, .int .u64 b] w fun e w' => e = .returned (.int .u64 (doV k a b)) ∧ Below w.heap.size w w' := by
  rcases k18 k hk with rfl | rfl | rfl | rfl | rfl | rfl | rfl | rfl | rfl | rfl | rfl | rfl | rfl | rfl | rfl | rfl | rfl | rfl
  · exact (f44_any a b w).mono fun _ _ ⟨h, h'⟩ => ⟨h, h' ▸ Below.refl _ _⟩
  · exact (f45_any a b w).mono fun _ _ ⟨h, h'⟩ => ⟨h, h' ▸ Below.refl _ _⟩
  · exact (f46_any a b w).mono fun _ _ ⟨h, h'⟩ => ⟨h, h' ▸ Below.refl _ _⟩
  · exact (f47_any a b w).mono fun _ _ ⟨h, h'⟩ => ⟨h, h' ▸ Below.refl _ _⟩
  · exact (f48_any a b w).mono fun _ _ ⟨h, h'⟩ => ⟨h, h' ▸ Below.refl _ _⟩
  · exact (f49_any a b hb w).mono fun _ _ ⟨h, h'⟩ => ⟨h, h' ▸ Below.refl _ _⟩
  · exact (f50_any a b hb w).mono fun _ _ ⟨h, h'⟩ => ⟨h, h' ▸ Below.refl _ _⟩
  · exact (f51_any a b hb w).mono fun _ _ ⟨h, h'⟩ => ⟨h, h' ▸ Below.refl _ _⟩
  · exact (f52_any a b w).mono fun _ _ ⟨h, h'⟩ => ⟨h, h' ▸ Below.refl _ _⟩
  · exact (f54_any a b w).mono fun _ _ ⟨h, h'⟩ => ⟨h, h' ▸ Below.refl _ _⟩
  · exact (f55_any a b w).mono fun _ _ ⟨h, h'⟩ => ⟨h, h' ▸ Below.refl _ _⟩
  · exact f56_any a b ha hb w
  · exact f58_any a b ha hb w
  · exact f59_any a b ha hb w
  · exact (f60_any a b ha hb w).mono fun _ _ ⟨h, h'⟩ => ⟨h, h'.below⟩
  · exact (f61_any a b ha hb w).mono fun _ _ ⟨h, h'⟩ => ⟨h, h'.below⟩
  · exact (f62_any a b ha hb w).mono fun _ _ ⟨h, h'⟩ => ⟨h, h'.below⟩
  · exact (f63_any a b ha hb w).mono fun _ _ ⟨h, h'⟩ => ⟨h, h'.below⟩
theorem do_enter (k : Nat) (hk : k < 18) (x : Array Value) (w : World) : (callFunc (fnN k) x).run Try.prog w = .ok (.enter (fnN k) x) w := by
  rcases k18 k hk with rfl | rfl | rfl | rfl | rfl | rfl | rfl | rfl | rfl | rfl | rfl | rfl | rfl | rfl | rfl | rfl | rfl | rfl
  · exact enter44 _ _
  · exact enter45 _ _
  · exact enter46 _ _
  · exact enter47 _ _
  · exact enter48 _ _
  · exact enter49 _ _
  · exact enter50 _ _
  · exact enter51 _ _
  · exact enter52 _ _
  · exact enter54 _ _
  · exact enter55 _ _
  · exact enter56 _ _
  · exact enter58 _ _
  · exact enter59 _ _
  · exact enter60 _ _
  · exact enter61 _ _
  · exact enter62 _ _
  · exact enter63 _ _
theorem low_any (f : Nat) (w : World) : Calls Try.prog 64 #[.func (Fn.func f) #[] #[]] w fun e w' => e = .returned (.func (Fn.func 81) #[] #[.pointer (some ⟨w.heap.size, 0, none⟩)]) ∧ w' = w.alloc (.cells #[.func (Fn.func f) #[] #[]] 85) := by
  have hmf : ∀ (fn : Fn) (first cap : Array Value) (w : World), (Instr.makeFunc fn first cap).run Try.prog w = .ok (.func fn first cap) w := fun _ _ _ _ => rfl
  go_enter Try.func64, Try.ntmps64
  go_wp2_with fail
  go_ret
  exact ⟨rfl, rfl⟩

theorem k28 (k : Nat) (hk : k < 28) : k = 0 ∨ k = 1 ∨ k = 2 ∨ k = 3 ∨ k = 4 ∨ k = 5 ∨ k = 6 ∨ k = 7 ∨ k = 8 ∨ k = 9 ∨ k = 10 ∨ k = 11 ∨ k = 12 ∨ k = 13 ∨ k = 14 ∨ k = 15 ∨ k = 16 ∨ k = 17 ∨ k = 18 ∨ k = 19 ∨ k = 20 ∨ k = 21 ∨ k = 22 ∨ k = 23 ∨ k = 24 ∨ k = 25 ∨ k = 26 ∨ k = 27 := by omega
theorem k10 (k : Nat) (hk : k < 10) : k = 0 ∨ k = 1 ∨ k = 2 ∨ k = 3 ∨ k = 4 ∨ k = 5 ∨ k = 6 ∨ k = 7 ∨ k = 8 ∨ k = 9 := by omega
def RowsP (w : World) (e : Ending) (w' : World) : Prop := ∃ B, e = .returned (.slice (some ⟨B, 0, none⟩) 28 28) ∧ (∀ k, k < 28 → w'.cell? ⟨B, k * 2, none⟩ = some (.int .i64 (opN k))) ∧ (∀ k, k < 18 → w'.cell? ⟨B, k * 2 + 1, none⟩ = some (.func (Fn.func (fnN k)) #[] #[]))
  ∧ (∀ j, j < 10 → w'.cell? ⟨B, (18 + j) * 2 + 1, none⟩ = some (.func (Fn.func 81) #[] #[.pointer (some ⟨w.heap.size + j, 0, none⟩)]) ∧ w'.cell? ⟨w.heap.size + j, 0, none⟩ = some (.func (Fn.func (65 + j)) #[] #[])) ∧ Below w.heap.size w w' ∧ B < w'.heap.size ∧ w.heap.size + 10 ≤ B
set_option maxHeartbeats 8000000 in
theorem rows_any (w : World) : Calls Try.prog 33 #[] w (RowsP w) := by
  go_enter Try.func33, Try.ntmps33
  go_wp2_with (go_at_call 64; refine (low_any _ _).mono ?_; rintro e w' ⟨rfl, rfl⟩)
  go_ret
  refine ⟨_, rfl, ?_, ?_, ?_, ?_, ?_, ?_⟩
  · intro k hk
    rcases k28 k hk with rfl | rfl | rfl | rfl | rfl | rfl | rfl | rfl | rfl | rfl | rfl | rfl | rfl | rfl | rfl | rfl | rfl | rfl | rfl | rfl | rfl | rfl | rfl | rfl | rfl | rfl | rfl | rfl
    all_goals (simp [go_sem, opN]; done)
  · intro k hk
    rcases k18 k hk with rfl | rfl | rfl | rfl | rfl | rfl | rfl | rfl | rfl | rfl | rfl | rfl | rfl | rfl | rfl | rfl | rfl | rfl
    all_goals (simp [go_sem, fnN]; done)
  · intro k hk
    rcases k10 k hk with rfl | rfl | rfl | rfl | rfl | rfl | rfl | rfl | rfl | rfl
    all_goals (refine ⟨?_, ?_⟩ <;> (simp [go_sem]; done))
  · exact (((((((((((Below.refl _ _).alloc (Nat.le_refl _) _).alloc (by simp) _).alloc (by simp; omega) _).alloc (by simp; omega) _).alloc (by simp; omega) _).alloc (by simp; omega) _).alloc (by simp; omega) _).alloc (by simp; omega) _).alloc (by simp; omega) _).alloc (by simp; omega) _).alloc (by simp; omega) _
  · simp
  · omega
end Go.Proofs.Ytdlhapjlpkadnaa
