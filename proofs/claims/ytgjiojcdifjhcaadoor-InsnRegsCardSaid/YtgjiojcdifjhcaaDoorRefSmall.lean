/- The document's has, field, holds, part, laid: walked, shape by shape. By an AI agent; printed by wip/gen_refsmall.py. -/
import Derived.Test.YtgjiojcdifjhcaaDoorEnc
set_option linter.unusedVariables false
set_option linter.unusedSimpArgs false
namespace Go.Proofs.YtgjiojcdifjhcaaDoor
open Go.RowKit
def hasImm (s : Nat) : Bool := (fmFields s).toNat.testBit 3
def hasCells (s : Nat) : Array Value := #[.bool (hasB s 0), .bool (hasB s 1), .bool (hasB s 2), .bool (hasImm s), .bool (hasB s 3)]
theorem closed1 {w : World} {o : Obj} : Below w.heap.size w (w.alloc o) := (Below.refl _ _).alloc (Nat.le_refl _) _
set_option maxRecDepth 100000 in
set_option maxHeartbeats 4000000 in
theorem has_at (s : Nat) (h1 : 1 ≤ s) (h2 : s ≤ 14) (w : World) : Calls Tryd.prog 44 #[.int .i64 s] w fun e w' => e = .returned (.agg (hasCells s)) ∧ Below w.heap.size w w' := by
  rcases s14 s h1 h2 with rfl | rfl | rfl | rfl | rfl | rfl | rfl | rfl | rfl | rfl | rfl | rfl | rfl | rfl
  · clear h1 h2
    go_enter Tryd.func44, Tryd.ntmps44
    go_wp2_with fail
    refine bodyPost_ret (v := .agg #[.bool true, .bool true, .bool true, .bool false, .bool false]) (by simp [results, Tryd.results44, go_sem]) rfl ⟨rfl, ?_⟩
    exact (by repeat' (first | exact Below.refl _ _ | refine Below.alloc ?_ ?_ _ | refine Below.setCell ?_ ?_ _ | exact Nat.le_refl _ | (simp; done) | (simp; omega)))
  · clear h1 h2
    go_enter Tryd.func44, Tryd.ntmps44
    go_wp2_with fail
    refine bodyPost_ret (v := .agg #[.bool true, .bool true, .bool false, .bool true, .bool false]) (by simp [results, Tryd.results44, go_sem]) rfl ⟨rfl, ?_⟩
    exact (by repeat' (first | exact Below.refl _ _ | refine Below.alloc ?_ ?_ _ | refine Below.setCell ?_ ?_ _ | exact Nat.le_refl _ | (simp; done) | (simp; omega)))
  · clear h1 h2
    go_enter Tryd.func44, Tryd.ntmps44
    go_wp2_with fail
    refine bodyPost_ret (v := .agg #[.bool true, .bool true, .bool false, .bool true, .bool false]) (by simp [results, Tryd.results44, go_sem]) rfl ⟨rfl, ?_⟩
    exact (by repeat' (first | exact Below.refl _ _ | refine Below.alloc ?_ ?_ _ | refine Below.setCell ?_ ?_ _ | exact Nat.le_refl _ | (simp; done) | (simp; omega)))
  · clear h1 h2
    go_enter Tryd.func44, Tryd.ntmps44
    go_wp2_with fail
    refine bodyPost_ret (v := .agg #[.bool true, .bool true, .bool false, .bool true, .bool false]) (by simp [results, Tryd.results44, go_sem]) rfl ⟨rfl, ?_⟩
    exact (by repeat' (first | exact Below.refl _ _ | refine Below.alloc ?_ ?_ _ | refine Below.setCell ?_ ?_ _ | exact Nat.le_refl _ | (simp; done) | (simp; omega)))
  · clear h1 h2
    go_enter Tryd.func44, Tryd.ntmps44
    go_wp2_with fail
    refine bodyPost_ret (v := .agg #[.bool true, .bool true, .bool false, .bool true, .bool false]) (by simp [results, Tryd.results44, go_sem]) rfl ⟨rfl, ?_⟩
    exact (by repeat' (first | exact Below.refl _ _ | refine Below.alloc ?_ ?_ _ | refine Below.setCell ?_ ?_ _ | exact Nat.le_refl _ | (simp; done) | (simp; omega)))
  · clear h1 h2
    go_enter Tryd.func44, Tryd.ntmps44
    go_wp2_with fail
    refine bodyPost_ret (v := .agg #[.bool false, .bool true, .bool true, .bool true, .bool false]) (by simp [results, Tryd.results44, go_sem]) rfl ⟨rfl, ?_⟩
    exact (by repeat' (first | exact Below.refl _ _ | refine Below.alloc ?_ ?_ _ | refine Below.setCell ?_ ?_ _ | exact Nat.le_refl _ | (simp; done) | (simp; omega)))
  · clear h1 h2
    go_enter Tryd.func44, Tryd.ntmps44
    go_wp2_with fail
    refine bodyPost_ret (v := .agg #[.bool false, .bool true, .bool true, .bool true, .bool false]) (by simp [results, Tryd.results44, go_sem]) rfl ⟨rfl, ?_⟩
    exact (by repeat' (first | exact Below.refl _ _ | refine Below.alloc ?_ ?_ _ | refine Below.setCell ?_ ?_ _ | exact Nat.le_refl _ | (simp; done) | (simp; omega)))
  · clear h1 h2
    go_enter Tryd.func44, Tryd.ntmps44
    go_wp2_with fail
    refine bodyPost_ret (v := .agg #[.bool true, .bool false, .bool false, .bool true, .bool false]) (by simp [results, Tryd.results44, go_sem]) rfl ⟨rfl, ?_⟩
    exact (by repeat' (first | exact Below.refl _ _ | refine Below.alloc ?_ ?_ _ | refine Below.setCell ?_ ?_ _ | exact Nat.le_refl _ | (simp; done) | (simp; omega)))
  · clear h1 h2
    go_enter Tryd.func44, Tryd.ntmps44
    go_wp2_with fail
    refine bodyPost_ret (v := .agg #[.bool true, .bool false, .bool false, .bool true, .bool false]) (by simp [results, Tryd.results44, go_sem]) rfl ⟨rfl, ?_⟩
    exact (by repeat' (first | exact Below.refl _ _ | refine Below.alloc ?_ ?_ _ | refine Below.setCell ?_ ?_ _ | exact Nat.le_refl _ | (simp; done) | (simp; omega)))
  · clear h1 h2
    go_enter Tryd.func44, Tryd.ntmps44
    go_wp2_with fail
    refine bodyPost_ret (v := .agg #[.bool true, .bool true, .bool false, .bool true, .bool false]) (by simp [results, Tryd.results44, go_sem]) rfl ⟨rfl, ?_⟩
    exact (by repeat' (first | exact Below.refl _ _ | refine Below.alloc ?_ ?_ _ | refine Below.setCell ?_ ?_ _ | exact Nat.le_refl _ | (simp; done) | (simp; omega)))
  · clear h1 h2
    go_enter Tryd.func44, Tryd.ntmps44
    go_wp2_with fail
    refine bodyPost_ret (v := .agg #[.bool false, .bool false, .bool false, .bool false, .bool false]) (by simp [results, Tryd.results44, go_sem]) rfl ⟨rfl, ?_⟩
    exact (by repeat' (first | exact Below.refl _ _ | refine Below.alloc ?_ ?_ _ | refine Below.setCell ?_ ?_ _ | exact Nat.le_refl _ | (simp; done) | (simp; omega)))
  · clear h1 h2
    go_enter Tryd.func44, Tryd.ntmps44
    go_wp2_with fail
    refine bodyPost_ret (v := .agg #[.bool false, .bool true, .bool true, .bool false, .bool false]) (by simp [results, Tryd.results44, go_sem]) rfl ⟨rfl, ?_⟩
    exact (by repeat' (first | exact Below.refl _ _ | refine Below.alloc ?_ ?_ _ | refine Below.setCell ?_ ?_ _ | exact Nat.le_refl _ | (simp; done) | (simp; omega)))
  · clear h1 h2
    go_enter Tryd.func44, Tryd.ntmps44
    go_wp2_with fail
    refine bodyPost_ret (v := .agg #[.bool true, .bool true, .bool false, .bool false, .bool true]) (by simp [results, Tryd.results44, go_sem]) rfl ⟨rfl, ?_⟩
    exact (by repeat' (first | exact Below.refl _ _ | refine Below.alloc ?_ ?_ _ | refine Below.setCell ?_ ?_ _ | exact Nat.le_refl _ | (simp; done) | (simp; omega)))
  · clear h1 h2
    go_enter Tryd.func44, Tryd.ntmps44
    go_wp2_with fail
    refine bodyPost_ret (v := .agg #[.bool true, .bool false, .bool false, .bool true, .bool true]) (by simp [results, Tryd.results44, go_sem]) rfl ⟨rfl, ?_⟩
    exact (by repeat' (first | exact Below.refl _ _ | refine Below.alloc ?_ ?_ _ | refine Below.setCell ?_ ?_ _ | exact Nat.le_refl _ | (simp; done) | (simp; omega)))
def fieldB (had : Bool) (n most : Int) : Bool := decide (0 ≤ n ∧ n ≤ if had = true then most else 0)
theorem fieldB_true {had : Bool} {n most : Int} (h : 0 ≤ n ∧ n ≤ if had = true then most else 0) : fieldB had n most = true := decide_eq_true h
theorem fieldB_false {had : Bool} {n most : Int} (h : ¬ (0 ≤ n ∧ n ≤ if had = true then most else 0)) : fieldB had n most = false := decide_eq_false h
def BoolPost (x : Bool) (w : World) (e : Ending) (w' : World) : Prop := e = .returned (.bool x) ∧ w' = w
theorem ret_bool' {x y : Bool} {w : World} (h : x = y) : BoolPost y w (.returned (.bool x)) w := ⟨by rw [h], rfl⟩
theorem field_any (had : Bool) (n most : Int) (w : World) : Calls Tryd.prog 45 #[.bool had, .int .i64 n, .int .i64 most] w (BoolPost (fieldB had n most) w) := by
  cases had
  · go_enter Tryd.func45, Tryd.ntmps45
    go_wp2_with fail
    go_ret
    refine ret_bool' ?_
    unfold fieldB
    rw [Bool.eq_iff_iff]; simp; omega
  · by_cases h : 0 ≤ n
    · go_enter Tryd.func45, Tryd.ntmps45
      go_wp2_with fail
      go_ret
      refine ret_bool' ?_
      unfold fieldB
      rw [Bool.eq_iff_iff]; simp; omega
    · go_enter Tryd.func45, Tryd.ntmps45
      go_wp2_with fail
      go_ret
      refine ret_bool' ?_
      unfold fieldB
      rw [Bool.eq_iff_iff]; simp; omega
def immB (s : Nat) (v : Int) : Bool := decide (immOk s v)
set_option maxRecDepth 100000 in
set_option maxHeartbeats 4000000 in
theorem holds_at (s : Nat) (h1 : 1 ≤ s) (h2 : s ≤ 14) (v : Int) (w : World) : Calls Tryd.prog 46 #[.int .i64 s, .int .i64 v] w (BoolPost (immB s v) w) := by
  rcases s14 s h1 h2 with rfl | rfl | rfl | rfl | rfl | rfl | rfl | rfl | rfl | rfl | rfl | rfl | rfl | rfl
  · clear h1 h2
    have IE : Hid (immB 1 v = decide (0 ≤ v ∧ v ≤ 0 ∧ v.tmod 1 = 0)) := Lib.hid rfl
    go_enter Tryd.func46, Tryd.ntmps46
    go_wp2_with fail
    go_ret
    refine ret_bool' ?_
    rw [IE.out, Bool.eq_iff_iff]; simp [Int.tmod_one]; try omega
  · clear h1 h2
    have IE : Hid (immB 2 v = decide (-2048 ≤ v ∧ v ≤ 2047 ∧ v.tmod 1 = 0)) := Lib.hid rfl
    by_cases a : -2048 ≤ v
    · by_cases b : v ≤ 2047
      · go_enter Tryd.func46, Tryd.ntmps46
        go_wp2_with fail
        go_ret
        refine ret_bool' ?_
        rw [IE.out, Bool.eq_iff_iff]; simp [Int.tmod_one]; try omega
      · have b' : 2047 < v := by omega
        go_enter Tryd.func46, Tryd.ntmps46
        go_wp2_with fail
        go_ret
        refine ret_bool' ?_
        rw [IE.out, Bool.eq_iff_iff]; simp [Int.tmod_one]; try omega
    · have a' : v < -2048 := by omega
      go_enter Tryd.func46, Tryd.ntmps46
      go_wp2_with fail
      go_ret
      refine ret_bool' ?_
      rw [IE.out, Bool.eq_iff_iff]; simp [Int.tmod_one]; try omega
  · clear h1 h2
    have IE : Hid (immB 3 v = decide (0 ≤ v ∧ v ≤ 63 ∧ v.tmod 1 = 0)) := Lib.hid rfl
    by_cases a : 0 ≤ v
    · by_cases b : v ≤ 63
      · go_enter Tryd.func46, Tryd.ntmps46
        go_wp2_with fail
        go_ret
        refine ret_bool' ?_
        rw [IE.out, Bool.eq_iff_iff]; simp [Int.tmod_one]; try omega
      · have b' : 63 < v := by omega
        go_enter Tryd.func46, Tryd.ntmps46
        go_wp2_with fail
        go_ret
        refine ret_bool' ?_
        rw [IE.out, Bool.eq_iff_iff]; simp [Int.tmod_one]; try omega
    · have a' : v < 0 := by omega
      go_enter Tryd.func46, Tryd.ntmps46
      go_wp2_with fail
      go_ret
      refine ret_bool' ?_
      rw [IE.out, Bool.eq_iff_iff]; simp [Int.tmod_one]; try omega
  · clear h1 h2
    have IE : Hid (immB 4 v = decide (0 ≤ v ∧ v ≤ 31 ∧ v.tmod 1 = 0)) := Lib.hid rfl
    by_cases a : 0 ≤ v
    · by_cases b : v ≤ 31
      · go_enter Tryd.func46, Tryd.ntmps46
        go_wp2_with fail
        go_ret
        refine ret_bool' ?_
        rw [IE.out, Bool.eq_iff_iff]; simp [Int.tmod_one]; try omega
      · have b' : 31 < v := by omega
        go_enter Tryd.func46, Tryd.ntmps46
        go_wp2_with fail
        go_ret
        refine ret_bool' ?_
        rw [IE.out, Bool.eq_iff_iff]; simp [Int.tmod_one]; try omega
    · have a' : v < 0 := by omega
      go_enter Tryd.func46, Tryd.ntmps46
      go_wp2_with fail
      go_ret
      refine ret_bool' ?_
      rw [IE.out, Bool.eq_iff_iff]; simp [Int.tmod_one]; try omega
  · clear h1 h2
    have IE : Hid (immB 5 v = decide (-2048 ≤ v ∧ v ≤ 2047 ∧ v.tmod 1 = 0)) := Lib.hid rfl
    by_cases a : -2048 ≤ v
    · by_cases b : v ≤ 2047
      · go_enter Tryd.func46, Tryd.ntmps46
        go_wp2_with fail
        go_ret
        refine ret_bool' ?_
        rw [IE.out, Bool.eq_iff_iff]; simp [Int.tmod_one]; try omega
      · have b' : 2047 < v := by omega
        go_enter Tryd.func46, Tryd.ntmps46
        go_wp2_with fail
        go_ret
        refine ret_bool' ?_
        rw [IE.out, Bool.eq_iff_iff]; simp [Int.tmod_one]; try omega
    · have a' : v < -2048 := by omega
      go_enter Tryd.func46, Tryd.ntmps46
      go_wp2_with fail
      go_ret
      refine ret_bool' ?_
      rw [IE.out, Bool.eq_iff_iff]; simp [Int.tmod_one]; try omega
  · clear h1 h2
    have IE : Hid (immB 6 v = decide (-2048 ≤ v ∧ v ≤ 2047 ∧ v.tmod 1 = 0)) := Lib.hid rfl
    by_cases a : -2048 ≤ v
    · by_cases b : v ≤ 2047
      · go_enter Tryd.func46, Tryd.ntmps46
        go_wp2_with fail
        go_ret
        refine ret_bool' ?_
        rw [IE.out, Bool.eq_iff_iff]; simp [Int.tmod_one]; try omega
      · have b' : 2047 < v := by omega
        go_enter Tryd.func46, Tryd.ntmps46
        go_wp2_with fail
        go_ret
        refine ret_bool' ?_
        rw [IE.out, Bool.eq_iff_iff]; simp [Int.tmod_one]; try omega
    · have a' : v < -2048 := by omega
      go_enter Tryd.func46, Tryd.ntmps46
      go_wp2_with fail
      go_ret
      refine ret_bool' ?_
      rw [IE.out, Bool.eq_iff_iff]; simp [Int.tmod_one]; try omega
  · clear h1 h2
    have IE : Hid (immB 7 v = decide (-4096 ≤ v ∧ v ≤ 4094 ∧ v.tmod 2 = 0)) := Lib.hid rfl
    by_cases a : -4096 ≤ v
    · by_cases b : v ≤ 4094
      · go_enter Tryd.func46, Tryd.ntmps46
        go_wp2_with fail
        go_ret
        refine ret_bool' ?_
        rw [IE.out, Bool.eq_iff_iff]; simp [Int.tmod_one]; try omega
      · have b' : 4094 < v := by omega
        go_enter Tryd.func46, Tryd.ntmps46
        go_wp2_with fail
        go_ret
        refine ret_bool' ?_
        rw [IE.out, Bool.eq_iff_iff]; simp [Int.tmod_one]; try omega
    · have a' : v < -4096 := by omega
      go_enter Tryd.func46, Tryd.ntmps46
      go_wp2_with fail
      go_ret
      refine ret_bool' ?_
      rw [IE.out, Bool.eq_iff_iff]; simp [Int.tmod_one]; try omega
  · clear h1 h2
    have IE : Hid (immB 8 v = decide (-2147483648 ≤ v ∧ v ≤ 2147479552 ∧ v.tmod 4096 = 0)) := Lib.hid rfl
    by_cases a : -2147483648 ≤ v
    · by_cases b : v ≤ 2147479552
      · go_enter Tryd.func46, Tryd.ntmps46
        go_wp2_with fail
        go_ret
        refine ret_bool' ?_
        rw [IE.out, Bool.eq_iff_iff]; simp [Int.tmod_one]; try omega
      · have b' : 2147479552 < v := by omega
        go_enter Tryd.func46, Tryd.ntmps46
        go_wp2_with fail
        go_ret
        refine ret_bool' ?_
        rw [IE.out, Bool.eq_iff_iff]; simp [Int.tmod_one]; try omega
    · have a' : v < -2147483648 := by omega
      go_enter Tryd.func46, Tryd.ntmps46
      go_wp2_with fail
      go_ret
      refine ret_bool' ?_
      rw [IE.out, Bool.eq_iff_iff]; simp [Int.tmod_one]; try omega
  · clear h1 h2
    have IE : Hid (immB 9 v = decide (-1048576 ≤ v ∧ v ≤ 1048574 ∧ v.tmod 2 = 0)) := Lib.hid rfl
    by_cases a : -1048576 ≤ v
    · by_cases b : v ≤ 1048574
      · go_enter Tryd.func46, Tryd.ntmps46
        go_wp2_with fail
        go_ret
        refine ret_bool' ?_
        rw [IE.out, Bool.eq_iff_iff]; simp [Int.tmod_one]; try omega
      · have b' : 1048574 < v := by omega
        go_enter Tryd.func46, Tryd.ntmps46
        go_wp2_with fail
        go_ret
        refine ret_bool' ?_
        rw [IE.out, Bool.eq_iff_iff]; simp [Int.tmod_one]; try omega
    · have a' : v < -1048576 := by omega
      go_enter Tryd.func46, Tryd.ntmps46
      go_wp2_with fail
      go_ret
      refine ret_bool' ?_
      rw [IE.out, Bool.eq_iff_iff]; simp [Int.tmod_one]; try omega
  · clear h1 h2
    have IE : Hid (immB 10 v = decide (0 ≤ v ∧ v ≤ 4095 ∧ v.tmod 1 = 0)) := Lib.hid rfl
    by_cases a : 0 ≤ v
    · by_cases b : v ≤ 4095
      · go_enter Tryd.func46, Tryd.ntmps46
        go_wp2_with fail
        go_ret
        refine ret_bool' ?_
        rw [IE.out, Bool.eq_iff_iff]; simp [Int.tmod_one]; try omega
      · have b' : 4095 < v := by omega
        go_enter Tryd.func46, Tryd.ntmps46
        go_wp2_with fail
        go_ret
        refine ret_bool' ?_
        rw [IE.out, Bool.eq_iff_iff]; simp [Int.tmod_one]; try omega
    · have a' : v < 0 := by omega
      go_enter Tryd.func46, Tryd.ntmps46
      go_wp2_with fail
      go_ret
      refine ret_bool' ?_
      rw [IE.out, Bool.eq_iff_iff]; simp [Int.tmod_one]; try omega
  · clear h1 h2
    have IE : Hid (immB 11 v = decide (0 ≤ v ∧ v ≤ 0 ∧ v.tmod 1 = 0)) := Lib.hid rfl
    go_enter Tryd.func46, Tryd.ntmps46
    go_wp2_with fail
    go_ret
    refine ret_bool' ?_
    rw [IE.out, Bool.eq_iff_iff]; simp [Int.tmod_one]; try omega
  · clear h1 h2
    have IE : Hid (immB 12 v = decide (0 ≤ v ∧ v ≤ 0 ∧ v.tmod 1 = 0)) := Lib.hid rfl
    go_enter Tryd.func46, Tryd.ntmps46
    go_wp2_with fail
    go_ret
    refine ret_bool' ?_
    rw [IE.out, Bool.eq_iff_iff]; simp [Int.tmod_one]; try omega
  · clear h1 h2
    have IE : Hid (immB 13 v = decide (0 ≤ v ∧ v ≤ 0 ∧ v.tmod 1 = 0)) := Lib.hid rfl
    go_enter Tryd.func46, Tryd.ntmps46
    go_wp2_with fail
    go_ret
    refine ret_bool' ?_
    rw [IE.out, Bool.eq_iff_iff]; simp [Int.tmod_one]; try omega
  · clear h1 h2
    have IE : Hid (immB 14 v = decide (0 ≤ v ∧ v ≤ 31 ∧ v.tmod 1 = 0)) := Lib.hid rfl
    by_cases a : 0 ≤ v
    · by_cases b : v ≤ 31
      · go_enter Tryd.func46, Tryd.ntmps46
        go_wp2_with fail
        go_ret
        refine ret_bool' ?_
        rw [IE.out, Bool.eq_iff_iff]; simp [Int.tmod_one]; try omega
      · have b' : 31 < v := by omega
        go_enter Tryd.func46, Tryd.ntmps46
        go_wp2_with fail
        go_ret
        refine ret_bool' ?_
        rw [IE.out, Bool.eq_iff_iff]; simp [Int.tmod_one]; try omega
    · have a' : v < 0 := by omega
      go_enter Tryd.func46, Tryd.ntmps46
      go_wp2_with fail
      go_ret
      refine ret_bool' ?_
      rw [IE.out, Bool.eq_iff_iff]; simp [Int.tmod_one]; try omega
end Go.Proofs.YtgjiojcdifjhcaaDoor
