/- How the arguments read: a list of instructions as its cells; an instruction by value as its six numbers. By an AI agent; open_slice_fields and open_agg6 are off the guide's page extra-structs. -/
import Derived.Test.YtgjiojcdifjhcaaDoorLEncodes
import Derived.Deep.Slices
import Derived.Deep.Fields
import Derived.ChangeSame
import Derived.Lib.SmallJoins
import Derived.ProofKit
set_option linter.unusedVariables false
set_option linter.unusedSimpArgs false
namespace Go.Proofs.YtgjiojcdifjhcaaDoor
open Go.Joins Go.ChangeShapes Go.WideShapes Go.RowKit Go.Deep
section
variable {H : Type} {enc : TypeId × Value → H} {P : Program} {w : World} {base : Nat} {spare : Nat → Bool} {held : Bool}
theorem open_slice_fields {t e : TypeId} {fs : Array Field} {fuel : Nat} {cs : List Value} {x : DataW H × List MemPlace} (ht : P.underlying t = some (.slice e)) (he : P.underlying e = some (.struct fs))
    (hone : oneCellFields P fs = true) (hC : P.cellsOf e = fs.size) (h : DataW.trod enc P w base spare held fuel t cs = some x) :
    (cs = [.slice none 0 0] ∧ x = (.nil, [])) ∨
    ∃ (a : Addr) (len cap m : Nat) (D : Nat → DataW H) (Pl : Nat → List MemPlace), cs = [.slice (some a) len cap] ∧ base ≤ a.block ∧ len ≤ cap ∧ cap ≤ maxLen ∧ m = (if spare a.block then cap else len) ∧
      x = (.slice ((List.range len).map D) ((List.range (m - len)).map fun j => D (len + j)), MemPlace.row a (m * fs.size) ++ (List.range m).flatMap Pl) ∧
      ∀ i, i < m → ∃ (ys : List (DataW H × List MemPlace)) (n : Nat), D i = .agg (ys.map (·.1)) ∧ Pl i = ys.flatMap (·.2) ∧ ys.length = fs.size ∧
        ∀ (j : Nat) (f : Field), fs[j]? = some f → ∃ (v : Value) (y : DataW H × List MemPlace), w.cell? (a.add (i * fs.size + j)) = some v ∧ ys[j]? = some y ∧ DataW.trod enc P w base spare held n f.type [v] = some y := by
  rcases open_slice ht h with h0 | ⟨a, len, cap, m, n, D, Pl, hcs, hb, hl, hm, hmm, hx, hi⟩
  · exact .inl h0
  · refine .inr ⟨a, len, cap, m, D, Pl, hcs, hb, hl, hm, hmm, by rw [hC] at hx; exact hx, fun i him => ?_⟩
    obtain ⟨cs', hc, ht'⟩ := hi i him
    rw [hC] at hc
    obtain ⟨ys, n', hn', hy, hlen, hyl, hf⟩ := DataW.trod_struct he ht'
    obtain ⟨_, hcl, hat⟩ := World.cells?_some hc
    simp only [Prod.mk.injEq] at hy
    refine ⟨ys, n', hy.1, hy.2, hyl, fun j f hj => ?_⟩
    obtain ⟨ho, hk⟩ := hone_of hone j f hj
    have hjl : j < fs.size := (Array.getElem?_eq_some_iff.1 hj).1
    have hcell := hat j hjl
    have hv : cs'[j]? = some (cs'[j]'(by omega)) := List.getElem?_eq_getElem (by omega)
    have h1 := hf j f hj
    rw [ho, hk] at h1
    have hone' : (cs'.drop j).take 1 = [cs'[j]'(by omega)] := by
      rw [List.drop_eq_getElem_cons (by omega)]
      rfl
    rw [hone'] at h1
    have hys : ys[j]? = some (ys[j]'(by omega)) := List.getElem?_eq_getElem (by omega)
    refine ⟨_, _, ?_, hys, h1.trans hys⟩
    rw [← Go.Deep.add_add, hcell, hv]
end
section
variable {H : Type} {enc : TypeId × Value → H} {P : Program} {w : World} {base : Nat} {spare : Nat → Bool} {held : Bool}
theorem open_agg6 {r : Reach} {b0 : Nat} {t : TypeId} {f0 f1 f2 f3 f4 f5 : Field} {v : Value} {d : DataW H} {p : List MemPlace} (hs : P.underlying t = some (.struct #[f0, f1, f2, f3, f4, f5])) (hone : oneCellFields P #[f0, f1, f2, f3, f4, f5] = true) (hC : P.cellsOf t = 6)
    (hv : Value.okWide P w r b0 t v) (h : DataW.Trod enc P w base spare held t v d p) :
    ∃ (v0 v1 v2 v3 v4 v5 : Value) (y0 y1 y2 y3 y4 y5 : DataW H × List MemPlace) (n : Nat), v = .agg #[v0, v1, v2, v3, v4, v5] ∧ d = .agg [y0.1, y1.1, y2.1, y3.1, y4.1, y5.1] ∧ p = y0.2 ++ (y1.2 ++ (y2.2 ++ (y3.2 ++ (y4.2 ++ y5.2)))) ∧
      DataW.trod enc P w base spare held n f0.type [v0] = some y0 ∧ DataW.trod enc P w base spare held n f1.type [v1] = some y1 ∧ DataW.trod enc P w base spare held n f2.type [v2] = some y2 ∧ DataW.trod enc P w base spare held n f3.type [v3] = some y3 ∧ DataW.trod enc P w base spare held n f4.type [v4] = some y4 ∧ DataW.trod enc P w base spare held n f5.type [v5] = some y5 := by
  obtain ⟨cs, rfl, hsz⟩ := okWide_struct hs hv
  obtain ⟨l⟩ := cs
  match l, hsz.trans hC with
  | [c0, c1, c2, c3, c4, c5], _ =>
    obtain ⟨fuel, hf⟩ := h
    obtain ⟨xs, n, _, hx, _, hlen, hg⟩ := DataW.trod_struct hs hf
    obtain ⟨o0, k0⟩ := hone_of hone 0 f0 rfl
    obtain ⟨o1, k1⟩ := hone_of hone 1 f1 rfl
    obtain ⟨o2, k2⟩ := hone_of hone 2 f2 rfl
    obtain ⟨o3, k3⟩ := hone_of hone 3 f3 rfl
    obtain ⟨o4, k4⟩ := hone_of hone 4 f4 rfl
    obtain ⟨o5, k5⟩ := hone_of hone 5 f5 rfl
    match xs, hlen with
    | [y0, y1, y2, y3, y4, y5], _ =>
      simp only [Prod.mk.injEq] at hx
      exact ⟨c0, c1, c2, c3, c4, c5, y0, y1, y2, y3, y4, y5, n, rfl, by simpa using hx.1, by simpa using hx.2, by simpa [Value.cells, o0, k0] using hg 0 f0 rfl, by simpa [Value.cells, o1, k1] using hg 1 f1 rfl, by simpa [Value.cells, o2, k2] using hg 2 f2 rfl, by simpa [Value.cells, o3, k3] using hg 3 f3 rfl, by simpa [Value.cells, o4, k4] using hg 4 f4 rfl, by simpa [Value.cells, o5, k5] using hg 5 f5 rfl⟩
end
theorem cells46 : Tryd.prog.cellsOf 46 = 6 := by kernel_rfl
def numAt (w : World) (a : Addr) : Int := match w.cell? a with | some (.int _ n) => n | _ => 0
theorem numAt_of {w : World} {a : Addr} {n : Int} (h : w.cell? a = some (.int .i64 n)) : w.cell? a = some (.int .i64 (numAt w a)) := by
  rw [h]; simp [numAt, h]
set_option maxRecDepth 100000 in
/-- A list of instructions that came in: empty, or its cells in a row. -/
theorem open_insns {H : Type} {enc : TypeId × Value → H} {W : World} {base : Nat} {v : Value} {d : DataW H} {p : List MemPlace} (hv : Value.okWide Tryd.prog W .any base 42 v) (h : DataW.Trod enc Tryd.prog W 0 (fun _ => true) true 42 v d p) :
    (∃ a cap, v = .slice a 0 cap) ∨ ∃ b off len cap X, v = .slice (some ⟨b, off, none⟩) len cap ∧ len ≤ maxLen ∧ RowsAt W b off len X := by
  obtain ⟨a0, len, cap, rfl⟩ := okWide_slice Tryd.underlying42 hv
  obtain ⟨fuel, hf⟩ := h
  rcases open_slice_fields Tryd.underlying42 Tryd.underlying46 (by kernel_rfl) cells46 hf with ⟨hcs, hx⟩ | ⟨a, len', cap', m, D, Pl, hcs, _, hl, hm, hmm, hx, hi⟩
  · simp [Value.cells] at hcs
    obtain ⟨rfl, rfl, rfl⟩ := hcs
    exact Or.inl ⟨_, _, rfl⟩
  · simp [Value.cells] at hcs
    obtain ⟨rfl, rfl, rfl⟩ := hcs
    simp only [if_true] at hmm
    subst hmm
    by_cases h0 : len = 0
    · subst h0; exact Or.inl ⟨_, _, rfl⟩
    · have cell : ∀ i, i < len → ∀ j, j < 6 → ∃ n, W.cell? (a.add (i * 6 + j)) = some (.int .i64 n) := by
        intro i hil j hj
        obtain ⟨ys, n, _, _, _, hj'⟩ := hi i (by omega)
        have h6 : j = 0 ∨ j = 1 ∨ j = 2 ∨ j = 3 ∨ j = 4 ∨ j = 5 := by omega
        rcases h6 with rfl | rfl | rfl | rfl | rfl | rfl
        · obtain ⟨v, y, hc, _, ht⟩ := hj' 0 _ rfl
          obtain ⟨z, hz, _, _⟩ := DataW.trod_int Tryd.underlying3 ht
          exact ⟨z, by rw [← List.head_eq_of_cons_eq hz]; exact hc⟩
        · obtain ⟨v, y, hc, _, ht⟩ := hj' 1 _ rfl
          obtain ⟨z, hz, _, _⟩ := DataW.trod_int Tryd.underlying3 ht
          exact ⟨z, by rw [← List.head_eq_of_cons_eq hz]; exact hc⟩
        · obtain ⟨v, y, hc, _, ht⟩ := hj' 2 _ rfl
          obtain ⟨z, hz, _, _⟩ := DataW.trod_int Tryd.underlying3 ht
          exact ⟨z, by rw [← List.head_eq_of_cons_eq hz]; exact hc⟩
        · obtain ⟨v, y, hc, _, ht⟩ := hj' 3 _ rfl
          obtain ⟨z, hz, _, _⟩ := DataW.trod_int Tryd.underlying3 ht
          exact ⟨z, by rw [← List.head_eq_of_cons_eq hz]; exact hc⟩
        · obtain ⟨v, y, hc, _, ht⟩ := hj' 4 _ rfl
          obtain ⟨z, hz, _, _⟩ := DataW.trod_int Tryd.underlying2 ht
          exact ⟨z, by rw [← List.head_eq_of_cons_eq hz]; exact hc⟩
        · obtain ⟨v, y, hc, _, ht⟩ := hj' 5 _ rfl
          obtain ⟨z, hz, _, _⟩ := DataW.trod_int Tryd.underlying3 ht
          exact ⟨z, by rw [← List.head_eq_of_cons_eq hz]; exact hc⟩
      obtain ⟨b, off, spot⟩ := a
      have hspot : spot = none := by
        obtain ⟨n, hn⟩ := cell 0 (by omega) 0 (by decide)
        simpa [Addr.add] using World.cell?_spot hn
      subst hspot
      have hadd : ∀ k, Addr.add ⟨b, off, none⟩ k = ⟨b, off + k, none⟩ := fun k => by
        unfold Addr.add; split
        · subst_vars; rfl
        · rfl
      refine Or.inr ⟨b, off, len, _, fun i j => numAt W ⟨b, off + i * 6 + j, none⟩, rfl, Nat.le_trans hl hm, fun i hil j hj => ?_⟩
      obtain ⟨n, hn⟩ := cell i hil j hj
      rw [hadd, ← Nat.add_assoc] at hn
      exact numAt_of hn
set_option maxRecDepth 100000 in
/-- An instruction by value: six numbers. -/
theorem open_insn {H : Type} {enc : TypeId × Value → H} {W : World} {base : Nat} {v : Value} {d : DataW H} {p : List MemPlace} (hv : Value.okWide Tryd.prog W .any base 46 v) (h : DataW.Trod enc Tryd.prog W 0 (fun _ => true) true 46 v d p) :
    ∃ a0 a1 a2 a3 a4 a5 : Int, v = .agg #[.int .i64 a0, .int .i64 a1, .int .i64 a2, .int .i64 a3, .int .i64 a4, .int .i64 a5] := by
  obtain ⟨v0, v1, v2, v3, v4, v5, y0, y1, y2, y3, y4, y5, n, rfl, _, _, t0, t1, t2, t3, t4, t5⟩ := open_agg6 Tryd.underlying46 (by kernel_rfl) cells46 hv h
  obtain ⟨z0, hz0, _, _⟩ := DataW.trod_int Tryd.underlying3 t0
  obtain ⟨z1, hz1, _, _⟩ := DataW.trod_int Tryd.underlying3 t1
  obtain ⟨z2, hz2, _, _⟩ := DataW.trod_int Tryd.underlying3 t2
  obtain ⟨z3, hz3, _, _⟩ := DataW.trod_int Tryd.underlying3 t3
  obtain ⟨z4, hz4, _, _⟩ := DataW.trod_int Tryd.underlying2 t4
  obtain ⟨z5, hz5, _, _⟩ := DataW.trod_int Tryd.underlying3 t5
  exact ⟨z0, z1, z2, z3, z4, z5, by rw [List.head_eq_of_cons_eq hz0, List.head_eq_of_cons_eq hz1, List.head_eq_of_cons_eq hz2, List.head_eq_of_cons_eq hz3, List.head_eq_of_cons_eq hz4, List.head_eq_of_cons_eq hz5]⟩
end Go.Proofs.YtgjiojcdifjhcaaDoor
