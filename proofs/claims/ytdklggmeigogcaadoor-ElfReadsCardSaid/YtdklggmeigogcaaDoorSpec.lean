/- What a file of bytes is as a program: chapter 7's P7.2, over lists of numbers. Plain. By an AI agent. -/
import Derived.Test.YtdklggmeigogcaaDoorRef
set_option linter.unusedVariables false
set_option linter.unusedSimpArgs false
namespace Go.Proofs.YtdklggmeigogcaaDoor
open Go.RowKit
/-- The number that k bytes from at on are. -/
def fld (L : List Nat) (at' k : Nat) : Nat := vsum (fun i => L.getD (at' + i) 0) k
def fixT : List (Nat × Nat × Nat) := [(0, 4, 1179403647), (4, 1, 2), (5, 1, 1), (6, 1, 1), (16, 2, 2), (18, 2, 243), (20, 4, 1), (52, 2, 64), (54, 2, 56)]
def codeAt (at' : Nat) : Int := if at' < 16 then 141 else 142
/-- The header's fields that must be so, the first j of them looked at: what is wrong, and where. -/
def fixNo (L : List Nat) : Nat → Int × Int
  | 0 => (0, 0)
  | j + 1 => if (fixNo L j).1 ≠ 0 then fixNo L j else
      let f := fixT.getD j (0, 0, 0)
      if fld L f.1 f.2.1 = f.2.2 then (0, 0) else (codeAt f.1, (f.1 : Int))
theorem fixNo_stay (L : List Nat) (j : Nat) (h : (fixNo L j).1 ≠ 0) : ∀ i, j ≤ i → fixNo L i = fixNo L j := by
  intro i hi
  induction i with
  | zero => have : j = 0 := by omega
            subst this; rfl
  | succ i ih =>
    by_cases e : j = i + 1
    · rw [e]
    · have h2 := ih (by omega)
      rw [fixNo, h2, if_pos h]
theorem fixNo_zero (L : List Nat) : ∀ j, (fixNo L j).1 = 0 → fixNo L j = (0, 0)
  | 0, _ => rfl
  | j + 1, h => by
    rw [fixNo] at h ⊢
    split at h
    · contradiction
    · rename_i h2
      rw [if_neg h2]
      dsimp only at h ⊢
      split at h
      · rename_i h3; rw [if_pos h3]
      · rename_i h3; unfold codeAt at h; split at h <;> simp at h
/-- The header: what is wrong, and where. -/
def headC (L : List Nat) : Int × Int :=
  if 262144 < L.length then (147, 262144) else if L.length < 64 then (140, (L.length : Int)) else
  if (fixNo L 9).1 ≠ 0 then fixNo L 9 else
  if fld L 56 2 < 1 ∨ 64 < fld L 56 2 then (143, 56) else
  if ¬ (fld L 32 8 ≤ L.length ∧ fld L 32 8 + 56 * fld L 56 2 ≤ L.length) then (140, 32) else (0, 0)
def segOf (L : List Nat) (at' : Nat) : PSeg := ⟨fld L (at' + 16) 8, fld L (at' + 4) 4, fld L (at' + 40) 8, (List.range (fld L (at' + 32) 8)).map (fun i => L.getD (fld L (at' + 8) 8 + i) 0)⟩
/-- The segment whose header is at that place, behind those: what is wrong. -/
def segC (L : List Nat) (at' : Nat) (l : List PSeg) : Int :=
  if l.length = 8 then 143 else
  if shapedB (fld L (at' + 16) 8) (fld L (at' + 4) 4) (fld L (at' + 40) 8) (fld L (at' + 32) 8) = false then 144 else
  if 0 < fld L (at' + 32) 8 ∧ ¬ (fld L (at' + 8) 8 ≤ L.length ∧ fld L (at' + 8) 8 + fld L (at' + 32) 8 ≤ L.length) then 140 else
  if risesB l (fld L (at' + 16) 8) = false then 145 else 0
/-- The first i headers looked at: what is wrong, where, the segments. -/
def run (L : List Nat) (from' : Nat) : Nat → Int × Int × List PSeg
  | 0 => (0, 0, [])
  | i + 1 => if (run L from' i).1 ≠ 0 then run L from' i else
      if fld L (from' + 56 * i) 4 ≠ 1 then run L from' i else
      if segC L (from' + 56 * i) (run L from' i).2.2 ≠ 0 then (segC L (from' + 56 * i) (run L from' i).2.2, ((from' + 56 * i : Nat) : Int), []) else
      (0, 0, (run L from' i).2.2 ++ [segOf L (from' + 56 * i)])
theorem run_stay (L : List Nat) (f j : Nat) (h : (run L f j).1 ≠ 0) : ∀ i, j ≤ i → run L f i = run L f j := by
  intro i hi
  induction i with
  | zero => have : j = 0 := by omega
            subst this; rfl
  | succ i ih =>
    by_cases e : j = i + 1
    · rw [e]
    · have h2 := ih (by omega)
      rw [run, h2, if_pos h]
theorem run_skip (L : List Nat) (f i : Nat) (h0 : (run L f i).1 = 0) (h : fld L (f + 56 * i) 4 ≠ 1) : run L f (i + 1) = run L f i := by
  rw [run, if_neg (by simp [h0]), if_pos h]
theorem run_bad (L : List Nat) (f i : Nat) (h0 : (run L f i).1 = 0) (h : fld L (f + 56 * i) 4 = 1) (h2 : segC L (f + 56 * i) (run L f i).2.2 ≠ 0) : run L f (i + 1) = (segC L (f + 56 * i) (run L f i).2.2, ((f + 56 * i : Nat) : Int), []) := by
  rw [run, if_neg (by simp [h0]), if_neg (by simp [h]), if_pos h2]
theorem run_more (L : List Nat) (f i : Nat) (h0 : (run L f i).1 = 0) (h : fld L (f + 56 * i) 4 = 1) (h2 : segC L (f + 56 * i) (run L f i).2.2 = 0) : run L f (i + 1) = (0, 0, (run L f i).2.2 ++ [segOf L (f + 56 * i)]) := by
  rw [run, if_neg (by simp [h0]), if_neg (by simp [h]), if_neg (by simp [h2])]
/-- What P7.2 says of a file: the refusal's number and place, or 0; the program. -/
def readC (L : List Nat) : Int × Int :=
  if (headC L).1 ≠ 0 then headC L else
  if (run L (fld L 32 8) (fld L 56 2)).1 ≠ 0 then ((run L (fld L 32 8) (fld L 56 2)).1, (run L (fld L 32 8) (fld L 56 2)).2.1) else
  if (run L (fld L 32 8) (fld L 56 2)).2.2.length = 0 then (143, 56) else
  if beginsB (run L (fld L 32 8) (fld L 56 2)).2.2 (fld L 24 8) = false then (146, 24) else (0, 0)
def readE (L : List Nat) : Nat := if (readC L).1 = 0 then fld L 24 8 else 0
def readS (L : List Nat) : List PSeg := if (readC L).1 = 0 then (run L (fld L 32 8) (fld L 56 2)).2.2 else []
theorem fld_lt (L : List Nat) (hL : ∀ i, L.getD i 0 < 256) (at' k : Nat) : fld L at' k < 256 ^ k := vsum_lt _ (fun i => hL _) k
theorem segC_zero {L : List Nat} {at' : Nat} {l : List PSeg} (h : segC L at' l = 0) : l.length ≠ 8 ∧ shapedB (fld L (at' + 16) 8) (fld L (at' + 4) 4) (fld L (at' + 40) 8) (fld L (at' + 32) 8) = true ∧
    (0 < fld L (at' + 32) 8 → fld L (at' + 8) 8 + fld L (at' + 32) 8 ≤ L.length) ∧ risesB l (fld L (at' + 16) 8) = true := by
  unfold segC at h
  split at h
  · simp at h
  · split at h
    · simp at h
    · split at h
      · simp at h
      · split at h
        · simp at h
        · rename_i h1 h2 h3 h4
          refine ⟨h1, by simpa using h2, fun hp => ?_, by simpa using h4⟩
          by_cases hx : fld L (at' + 8) 8 ≤ L.length ∧ fld L (at' + 8) 8 + fld L (at' + 32) 8 ≤ L.length
          · exact hx.2
          · exact absurd ⟨hp, hx⟩ h3
/-- Each segment that is read ends at 2^30 at the most. -/
theorem run_ends (L : List Nat) (f : Nat) : ∀ k, ∀ i, i < (run L f k).2.2.length → ((run L f k).2.2.getD i PSeg.z).va + ((run L f k).2.2.getD i PSeg.z).mem ≤ 1073741824 := by
  intro k
  induction k with
  | zero => intro i hi; simp [run] at hi
  | succ k ih =>
    by_cases h0 : (run L f k).1 = 0
    · by_cases h1 : fld L (f + 56 * k) 4 = 1
      · by_cases h2 : segC L (f + 56 * k) (run L f k).2.2 = 0
        · rw [run_more L f k h0 h1 h2]
          intro i hi
          simp only [List.length_append, List.length_singleton] at hi
          by_cases e : i < (run L f k).2.2.length
          · have := ih i e
            simpa [List.getElem?_append_left e] using this
          · have e2 : i = (run L f k).2.2.length := by omega
            obtain ⟨_, hs, _⟩ := segC_zero h2
            have := (shapedB_of hs).2.1
            subst e2
            simpa [segOf] using this
        · rw [run_bad L f k h0 h1 h2]; intro i hi; simp at hi
      · rw [run_skip L f k h0 h1]; exact ih
    · rw [run_stay L f k h0 (k + 1) (by omega)]; exact ih
theorem run_few (L : List Nat) (f : Nat) : ∀ k, (run L f k).2.2.length ≤ 8 := by
  intro k
  induction k with
  | zero => simp [run]
  | succ k ih =>
    by_cases h0 : (run L f k).1 = 0
    · by_cases h1 : fld L (f + 56 * k) 4 = 1
      · by_cases h2 : segC L (f + 56 * k) (run L f k).2.2 = 0
        · rw [run_more L f k h0 h1 h2]
          have := (segC_zero h2).1
          simp; omega
        · rw [run_bad L f k h0 h1 h2]; simp
      · rw [run_skip L f k h0 h1]; exact ih
    · rw [run_stay L f k h0 (k + 1) (by omega)]; exact ih
end Go.Proofs.YtdklggmeigogcaaDoor
