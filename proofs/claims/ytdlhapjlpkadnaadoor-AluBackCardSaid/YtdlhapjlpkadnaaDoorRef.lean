/- hartixref2's load, store, low, Bytes, Extend, Keep. By an AI agent. -/
import Derived.Test.YtdlhapjlpkadnaaDoorExt
import Derived.Laws.BitsAllLaws
import Derived.Laws.BitsLemmas
set_option linter.unusedVariables false
set_option linter.unusedSimpArgs false
namespace Go.Proofs.YtdlhapjlpkadnaaDoor
open Go.RowKit
theorem wraps_u64 (n : Int) (h₀ : 0 ≤ n) (h₁ : n < 2 ^ 64) : IntKind.u64.wrap n = n := by rw [wrap_u64]; omega
set_option maxRecDepth 100000 in
theorem load_at (k : Nat) (hk : k < 7) (w : World) : Calls Tryd.prog 17 #[.int .i64 (11 + (k : Int))] w fun e w' => e = .returned (.tuple #[.int .i64 (nb k), .bool (decide (k < 4))]) ∧ w' = w := by
  have hk' : k = 0 ∨ k = 1 ∨ k = 2 ∨ k = 3 ∨ k = 4 ∨ k = 5 ∨ k = 6 := by omega
  clear hk
  rcases hk' with rfl | rfl | rfl | rfl | rfl | rfl | rfl
  all_goals (go_enter Tryd.func17, Tryd.ntmps17; go_wp2; go_ret2; exact ⟨rfl, rfl⟩)
set_option maxRecDepth 100000 in
theorem load_no (op : Int) (hn : ∀ k : Nat, k < 7 → op ≠ 11 + (k : Int)) (w : World) : Calls Tryd.prog 17 #[.int .i64 op] w fun e w' => e = .returned (.tuple #[.int .i64 0, .bool false]) ∧ w' = w := by
  have e0 : (op == 11) = false := by simpa using hn 0 (by decide)
  have e1 : (op == 12) = false := by simpa using hn 1 (by decide)
  have e2 : (op == 13) = false := by simpa using hn 2 (by decide)
  have e3 : (op == 14) = false := by simpa using hn 3 (by decide)
  have e4 : (op == 15) = false := by simpa using hn 4 (by decide)
  have e5 : (op == 16) = false := by simpa using hn 5 (by decide)
  have e6 : (op == 17) = false := by simpa using hn 6 (by decide)
  clear hn
  go_enter Tryd.func17, Tryd.ntmps17
  go_wp2
  go_ret2
  exact ⟨rfl, rfl⟩
set_option maxRecDepth 100000 in
theorem store_at (k : Nat) (hk7 : 7 ≤ k) (hk : k < 11) (w : World) : Calls Tryd.prog 21 #[.int .i64 (11 + (k : Int))] w fun e w' => e = .returned (.int .i64 (nb k)) ∧ w' = w := by
  have hk' : k = 7 ∨ k = 8 ∨ k = 9 ∨ k = 10 := by omega
  clear hk hk7
  rcases hk' with rfl | rfl | rfl | rfl
  all_goals (go_enter Tryd.func21, Tryd.ntmps21; go_wp2; go_ret; exact ⟨rfl, rfl⟩)
set_option maxRecDepth 100000 in
theorem store_no (op : Int) (hn : ∀ k : Nat, 7 ≤ k → k < 11 → op ≠ 11 + (k : Int)) (w : World) : Calls Tryd.prog 21 #[.int .i64 op] w fun e w' => e = .returned (.int .i64 0) ∧ w' = w := by
  have e0 : (op == 18) = false := by simpa using hn 7 (by decide) (by decide)
  have e1 : (op == 19) = false := by simpa using hn 8 (by decide) (by decide)
  have e2 : (op == 20) = false := by simpa using hn 9 (by decide) (by decide)
  have e3 : (op == 21) = false := by simpa using hn 10 (by decide) (by decide)
  clear hn
  go_enter Tryd.func21, Tryd.ntmps21
  go_wp2
  go_ret
  exact ⟨rfl, rfl⟩
theorem refbytes_load (k : Nat) (hk : k < 7) (w : World) : Calls Tryd.prog 11 #[.int .i64 (11 + (k : Int))] w fun e w' => e = .returned (.int .i64 (nb k)) ∧ w' = w := by
  have S := Lib.hid (store_no (11 + (k : Int)) (fun j h7 hj => by omega) w)
  have L := Lib.hid (load_at k hk w)
  have N : wrap64 (nb k) = nb k := by
    have hk' : k = 0 ∨ k = 1 ∨ k = 2 ∨ k = 3 ∨ k = 4 ∨ k = 5 ∨ k = 6 := by omega
    rcases hk' with rfl | rfl | rfl | rfl | rfl | rfl | rfl <;> simp [nb, wrap64]
  go_enter Tryd.func11, Tryd.ntmps11
  go_wp2_with fail
  refine L.out.mono ?_
  rintro e w1 ⟨rfl, rfl⟩
  clear L
  go_wp2_with fail
  refine S.out.mono ?_
  rintro e w1 ⟨rfl, rfl⟩
  clear S
  go_wp2
  go_ret
  exact ⟨ret_int N, rfl⟩
theorem refbytes_store (k : Nat) (hk7 : 7 ≤ k) (hk : k < 11) (w : World) : Calls Tryd.prog 11 #[.int .i64 (11 + (k : Int))] w fun e w' => e = .returned (.int .i64 (nb k)) ∧ w' = w := by
  have S := Lib.hid (store_at k hk7 hk w)
  have L := Lib.hid (load_no (11 + (k : Int)) (fun j hj => by omega) w)
  have N : wrap64 (nb k) = nb k := by
    have hk' : k = 7 ∨ k = 8 ∨ k = 9 ∨ k = 10 := by omega
    rcases hk' with rfl | rfl | rfl | rfl <;> simp [nb, wrap64]
  go_enter Tryd.func11, Tryd.ntmps11
  go_wp2_with fail
  refine L.out.mono ?_
  rintro e w1 ⟨rfl, rfl⟩
  clear L
  go_wp2_with fail
  refine S.out.mono ?_
  rintro e w1 ⟨rfl, rfl⟩
  clear S
  go_wp2
  go_ret
  exact ⟨ret_int N, rfl⟩
theorem refbytes_no (op : Int) (hn : ∀ k : Nat, k < 11 → op ≠ 11 + (k : Int)) (w : World) : Calls Tryd.prog 11 #[.int .i64 op] w fun e w' => e = .returned (.int .i64 0) ∧ w' = w := by
  have S := Lib.hid (store_no op (fun j h7 hj => hn j hj) w)
  have L := Lib.hid (load_no op (fun j hj => hn j (by omega)) w)
  clear hn
  go_enter Tryd.func11, Tryd.ntmps11
  go_wp2_with fail
  refine L.out.mono ?_
  rintro e w1 ⟨rfl, rfl⟩
  clear L
  go_wp2_with fail
  refine S.out.mono ?_
  rintro e w1 ⟨rfl, rfl⟩
  clear S
  go_wp2
  go_ret
  exact ⟨rfl, rfl⟩
def lowV (k : Nat) (v : Int) : Int := if k = 0 ∨ k = 4 ∨ k = 7 then v % 256 else if k = 1 ∨ k = 5 ∨ k = 8 then v % 65536 else if k = 2 ∨ k = 6 ∨ k = 9 then v % 4294967296 else v
set_option maxRecDepth 100000 in
theorem low_at (k : Nat) (hk : k < 11) (v : Int) (hv : Word v) (w : World) : Calls Tryd.prog 19 #[.int .u64 v, .int .i64 (nb k)] w fun e w' => e = .returned (.int .u64 (lowV k v)) ∧ w' = w := by
  have a1 : bits .and .u64 v 255 = v % 256 := bits_mask .u64 64 (by decide) wraps_u64 8 (by decide) v hv.1 (by show _ < (18446744073709551616 : Int); have := hv.2; omega)
  have a2 : bits .and .u64 v 65535 = v % 65536 := bits_mask .u64 64 (by decide) wraps_u64 16 (by decide) v hv.1 (by show _ < (18446744073709551616 : Int); have := hv.2; omega)
  have a3 : bits .and .u64 v 4294967295 = v % 4294967296 := bits_mask .u64 64 (by decide) wraps_u64 32 (by decide) v hv.1 (by show _ < (18446744073709551616 : Int); have := hv.2; omega)
  have hk' : k = 0 ∨ k = 1 ∨ k = 2 ∨ k = 3 ∨ k = 4 ∨ k = 5 ∨ k = 6 ∨ k = 7 ∨ k = 8 ∨ k = 9 ∨ k = 10 := by omega
  clear hk hv
  rcases hk' with rfl | rfl | rfl | rfl | rfl | rfl | rfl | rfl | rfl | rfl | rfl <;> simp only [nb, List.getD_cons_zero, List.getD_cons_succ]
  all_goals (go_enter Tryd.func19, Tryd.ntmps19; go_wp2; go_ret; exact ⟨rfl, rfl⟩)

theorem after_alloc {w w1 : World} {C : Array Value} {t : TypeId} (hb : Below (w.alloc (.cells C t)).heap.size (w.alloc (.cells C t)) w1) :
    w.heap.size < w1.heap.size ∧ (∀ o v, C[o]? = some v → w1.cell? ⟨w.heap.size, o, none⟩ = some v) ∧ (∀ o, w1.frozen? ⟨w.heap.size, o, none⟩ = false) ∧ Below w.heap.size w w1 := by
  obtain ⟨hc, hf⟩ := bcell hb
  have hz := hb.size
  simp only [World.size_alloc] at hc hf hz
  refine ⟨by omega, fun o v h => ?_, fun o => ?_, ?_⟩
  · rw [hc _ _ (by omega)]; simpa [go_sem] using h
  · rw [hf _ _ (by omega)]; simp [go_sem]
  · exact ((Below.refl _ _).alloc (Nat.le_refl _) _).trans (hb.mono (by simp))
theorem refno_any (c : Int) (w : World) : Calls Tryd.prog 18 #[.int .i64 c] w fun e w' => e = .returned (.agg #[.slice (some ⟨w.heap.size + 1 + 1, 0, none⟩) 1 1, .int .i64 c]) ∧ w' = ((w.alloc (.cells #[.slice (some ⟨w.heap.size + 1 + 1, 0, none⟩) 1 1, .int .i64 c] 31)).alloc (.cells #[.slice (some ⟨w.heap.size + 1 + 1, 0, none⟩) 1 1, .int .i64 c] 31)).alloc (.cells #[.string ⟨#[97, 108, 117]⟩, .int .i64 0] 64) := by
  go_enter Tryd.func18, Tryd.ntmps18
  go_wp2_with (go_at_call 24; refine (new_any _ _ _ _).mono ?_; rintro e w' ⟨rfl, rfl⟩)
  refine bodyPost_ret (v := .agg #[.slice (some ⟨w.heap.size + 1 + 1, 0, none⟩) 1 1, .int .i64 c]) (by simp [results, Tryd.results18, go_sem]) rfl ⟨rfl, rfl⟩
def RefVal (x : Int) (w : World) (e : Ending) (w' : World) : Prop := e = .returned (.tuple #[.int .u64 x, .agg #[.slice none 0 0, .int .i64 0]]) ∧ Below w.heap.size w w'
def RefNo (w : World) (e : Ending) (w' : World) : Prop := ∃ d n, e = .returned (.tuple #[.int .u64 0, .agg #[.slice (some ⟨d, 0, none⟩) 1 n, .int .i64 40]]) ∧ w'.cell? ⟨d, 0, none⟩ = some (.string ⟨#[97, 108, 117]⟩) ∧ w'.cell? ⟨d, 1, none⟩ = some (.int .i64 0) ∧ Below w.heap.size w w'
set_option maxRecDepth 100000 in
theorem refextend_no (op : Int) (hn : ∀ k : Nat, k < 7 → op ≠ 11 + (k : Int)) (v : Int) (w : World) : Calls Tryd.prog 8 #[.int .i64 op, .int .u64 v] w (RefNo w) := by
  have L := Lib.hid (fun w => load_no op hn w)
  clear hn
  go_enter Tryd.func8, Tryd.ntmps8
  go_wp2_with fail
  refine (L.out _).mono ?_
  rintro e w1 ⟨rfl, rfl⟩
  go_wp2_with (go_at_call 18; refine (refno_any _ _).mono ?_; rintro e w1 ⟨rfl, rfl⟩)
  refine bodyPost_ret (v := .tuple #[.int .u64 0, .agg #[.slice (some ⟨w.heap.size + 1 + 1 + 1, 0, none⟩) 1 1, .int .i64 40]]) (by simp [results, Tryd.results8, go_sem]) rfl ⟨_, _, rfl, by simp [go_sem], by simp [go_sem], ?_⟩
  exact (by repeat' (first | exact Below.refl _ _ | refine Below.alloc ?_ ?_ _ | refine Below.setCell ?_ ?_ _ | exact Nat.le_refl _ | (simp; done) | (simp; omega)))
set_option maxRecDepth 100000 in
theorem refkeep_no (op : Int) (hn : ∀ k : Nat, 7 ≤ k → k < 11 → op ≠ 11 + (k : Int)) (v : Int) (w : World) : Calls Tryd.prog 10 #[.int .i64 op, .int .u64 v] w (RefNo w) := by
  have L := Lib.hid (fun w => store_no op hn w)
  clear hn
  go_enter Tryd.func10, Tryd.ntmps10
  go_wp2_with fail
  refine (L.out _).mono ?_
  rintro e w1 ⟨rfl, rfl⟩
  go_wp2_with (go_at_call 18; refine (refno_any _ _).mono ?_; rintro e w1 ⟨rfl, rfl⟩)
  refine bodyPost_ret (v := .tuple #[.int .u64 0, .agg #[.slice (some ⟨w.heap.size + 1 + 1 + 1, 0, none⟩) 1 1, .int .i64 40]]) (by simp [results, Tryd.results10, go_sem]) rfl ⟨_, _, rfl, by simp [go_sem], by simp [go_sem], ?_⟩
  exact (by repeat' (first | exact Below.refl _ _ | refine Below.alloc ?_ ?_ _ | refine Below.setCell ?_ ?_ _ | exact Nat.le_refl _ | (simp; done) | (simp; omega)))
theorem keepV_low (k : Nat) (hk7 : 7 ≤ k) (hk : k < 11) (v : Int) : lowV k v = keepV k v := by
  have hk' : k = 7 ∨ k = 8 ∨ k = 9 ∨ k = 10 := by omega
  rcases hk' with rfl | rfl | rfl | rfl <;> simp [lowV, keepV]
theorem nb_ne (k : Nat) (hk : k < 11) : (nb k == 0) = false := by
  have hk' : k = 0 ∨ k = 1 ∨ k = 2 ∨ k = 3 ∨ k = 4 ∨ k = 5 ∨ k = 6 ∨ k = 7 ∨ k = 8 ∨ k = 9 ∨ k = 10 := by omega
  rcases hk' with rfl | rfl | rfl | rfl | rfl | rfl | rfl | rfl | rfl | rfl | rfl <;> decide
set_option maxRecDepth 100000 in
theorem refkeep_at (k : Nat) (hk7 : 7 ≤ k) (hk : k < 11) (v : Int) (hv : Word v) (w : World) : Calls Tryd.prog 10 #[.int .i64 (11 + (k : Int)), .int .u64 v] w (RefVal (keepV k v) w) := by
  have L := Lib.hid (fun w => store_at k hk7 hk w)
  have W := Lib.hid (fun w => low_at k hk v hv w)
  rw [keepV_low k hk7 hk] at W
  have e0 := nb_ne k hk
  go_enter Tryd.func10, Tryd.ntmps10
  go_wp2_with fail
  refine (L.out _).mono ?_
  rintro e w1 ⟨rfl, rfl⟩
  go_wp2_with (first | (go_at_call 19; refine (W.out _).mono ?_; rintro e w1 ⟨rfl, rfl⟩) | (go_at_call 20; refine (none_any _).mono ?_; rintro e w2 ⟨rfl, rfl⟩))
  refine bodyPost_ret (v := .tuple #[.int .u64 (keepV k v), .agg #[.slice none 0 0, .int .i64 0]]) (by simp [results, Tryd.results10, go_sem]) rfl ⟨rfl, ?_⟩
  exact (by repeat' (first | exact Below.refl _ _ | refine Below.alloc ?_ ?_ _ | refine Below.setCell ?_ ?_ _ | exact Nat.le_refl _ | (simp; done) | (simp; omega)))
set_option maxRecDepth 100000 in
set_option maxHeartbeats 2000000 in
theorem refextend_at (k : Nat) (hk : k < 7) (v : Int) (hv : Word v) (w : World) : Calls Tryd.prog 8 #[.int .i64 (11 + (k : Int)), .int .u64 v] w (RefVal (extV k v) w) := by
  have L := Lib.hid (fun w => load_at k hk w)
  have W := Lib.hid (fun w => low_at k (by omega) v hv w)
  have HV := Lib.hid hv
  clear hv
  have hk' : k = 0 ∨ k = 1 ∨ k = 2 ∨ k = 3 ∨ k = 4 ∨ k = 5 ∨ k = 6 := by omega
  clear hk
  go_enter Tryd.func8, Tryd.ntmps8
  go_wp2_with fail
  refine (L.out _).mono ?_
  rintro e w1 ⟨rfl, rfl⟩
  rcases hk' with rfl | rfl | rfl | rfl | rfl | rfl | rfl <;> simp only [nb, lowV, List.getD_cons_zero, List.getD_cons_succ, Nat.reduceLT, decide_true, decide_false, Nat.reduceEqDiff, or_self, or_true, true_or, or_false, false_or, if_true, if_false] at W ⊢
  · go_wp2_with (first | (go_at_call 19; refine (W.out _).mono ?_; rintro e w1 ⟨rfl, rfl⟩) | (go_at_call 20; refine (none_any _).mono ?_; rintro e w2 ⟨rfl, rfl⟩))
    all_goals
      rename_i h
      have H := HV.out
      refine bodyPost_ret (v := .tuple #[.int .u64 (extV 0 v), .agg #[.slice none 0 0, .int .i64 0]]) (by simp [results, Tryd.results8, go_sem, extV]; simp at h; (try simp only [wrap_u64]); unfold Word at H; omega) rfl ⟨rfl, ?_⟩
      exact (by repeat' (first | exact Below.refl _ _ | refine Below.alloc ?_ ?_ _ | refine Below.setCell ?_ ?_ _ | exact Nat.le_refl _ | (simp; done) | (simp; omega)))
  · go_wp2_with (first | (go_at_call 19; refine (W.out _).mono ?_; rintro e w1 ⟨rfl, rfl⟩) | (go_at_call 20; refine (none_any _).mono ?_; rintro e w2 ⟨rfl, rfl⟩))
    all_goals
      rename_i h
      have H := HV.out
      refine bodyPost_ret (v := .tuple #[.int .u64 (extV 1 v), .agg #[.slice none 0 0, .int .i64 0]]) (by simp [results, Tryd.results8, go_sem, extV]; simp at h; (try simp only [wrap_u64]); unfold Word at H; omega) rfl ⟨rfl, ?_⟩
      exact (by repeat' (first | exact Below.refl _ _ | refine Below.alloc ?_ ?_ _ | refine Below.setCell ?_ ?_ _ | exact Nat.le_refl _ | (simp; done) | (simp; omega)))
  · go_wp2_with (first | (go_at_call 19; refine (W.out _).mono ?_; rintro e w1 ⟨rfl, rfl⟩) | (go_at_call 20; refine (none_any _).mono ?_; rintro e w2 ⟨rfl, rfl⟩))
    all_goals
      rename_i h
      have H := HV.out
      refine bodyPost_ret (v := .tuple #[.int .u64 (extV 2 v), .agg #[.slice none 0 0, .int .i64 0]]) (by simp [results, Tryd.results8, go_sem, extV]; simp at h; (try simp only [wrap_u64]); unfold Word at H; omega) rfl ⟨rfl, ?_⟩
      exact (by repeat' (first | exact Below.refl _ _ | refine Below.alloc ?_ ?_ _ | refine Below.setCell ?_ ?_ _ | exact Nat.le_refl _ | (simp; done) | (simp; omega)))
  · go_wp2_with (first | (go_at_call 19; refine (W.out _).mono ?_; rintro e w1 ⟨rfl, rfl⟩) | (go_at_call 20; refine (none_any _).mono ?_; rintro e w2 ⟨rfl, rfl⟩))
    refine bodyPost_ret (v := .tuple #[.int .u64 (extV 3 v), .agg #[.slice none 0 0, .int .i64 0]]) (by simp [results, Tryd.results8, go_sem, extV]) rfl ⟨rfl, ?_⟩
    exact (by repeat' (first | exact Below.refl _ _ | refine Below.alloc ?_ ?_ _ | refine Below.setCell ?_ ?_ _ | exact Nat.le_refl _ | (simp; done) | (simp; omega)))
  · go_wp2_with (first | (go_at_call 19; refine (W.out _).mono ?_; rintro e w1 ⟨rfl, rfl⟩) | (go_at_call 20; refine (none_any _).mono ?_; rintro e w2 ⟨rfl, rfl⟩))
    refine bodyPost_ret (v := .tuple #[.int .u64 (extV 4 v), .agg #[.slice none 0 0, .int .i64 0]]) (by simp [results, Tryd.results8, go_sem, extV]) rfl ⟨rfl, ?_⟩
    exact (by repeat' (first | exact Below.refl _ _ | refine Below.alloc ?_ ?_ _ | refine Below.setCell ?_ ?_ _ | exact Nat.le_refl _ | (simp; done) | (simp; omega)))
  · go_wp2_with (first | (go_at_call 19; refine (W.out _).mono ?_; rintro e w1 ⟨rfl, rfl⟩) | (go_at_call 20; refine (none_any _).mono ?_; rintro e w2 ⟨rfl, rfl⟩))
    refine bodyPost_ret (v := .tuple #[.int .u64 (extV 5 v), .agg #[.slice none 0 0, .int .i64 0]]) (by simp [results, Tryd.results8, go_sem, extV]) rfl ⟨rfl, ?_⟩
    exact (by repeat' (first | exact Below.refl _ _ | refine Below.alloc ?_ ?_ _ | refine Below.setCell ?_ ?_ _ | exact Nat.le_refl _ | (simp; done) | (simp; omega)))
  · go_wp2_with (first | (go_at_call 19; refine (W.out _).mono ?_; rintro e w1 ⟨rfl, rfl⟩) | (go_at_call 20; refine (none_any _).mono ?_; rintro e w2 ⟨rfl, rfl⟩))
    refine bodyPost_ret (v := .tuple #[.int .u64 (extV 6 v), .agg #[.slice none 0 0, .int .i64 0]]) (by simp [results, Tryd.results8, go_sem, extV]) rfl ⟨rfl, ?_⟩
    exact (by repeat' (first | exact Below.refl _ _ | refine Below.alloc ?_ ?_ _ | refine Below.setCell ?_ ?_ _ | exact Nat.le_refl _ | (simp; done) | (simp; omega)))
end Go.Proofs.YtdlhapjlpkadnaaDoor
