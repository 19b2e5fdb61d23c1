/- insn.fields: its region drawn, walked in the order of the text. By an AI agent. -/
import Derived.Test.YtgjiojcdifjhcaaDoorForm
import Derived.Test.YtgjiojcdifjhcaaDoorWLast
import Derived.Laws.Rows
import Derived.Laws.Tables
set_option linter.unusedVariables false
set_option linter.unusedSimpArgs false
namespace Go.Proofs.YtgjiojcdifjhcaaDoor
open Go.RowKit Go.Proofs.YtgjiojcdifjhcaaDoorW.PrintLast
def fieldCells (b : Nat) : Array Value := #[.int .i64 1, .int .i64 1, .int .i64 7, .int .i64 5, .pointer (some ⟨b, 1, none⟩), .int .i64 2, .int .i64 2, .int .i64 15, .int .i64 5, .pointer (some ⟨b, 2, none⟩), .int .i64 4, .int .i64 3, .int .i64 20, .int .i64 5, .pointer (some ⟨b, 3, none⟩), .int .i64 16, .int .i64 5, .int .i64 20, .int .i64 12, .pointer (some ⟨b, 5, none⟩)]
section
variable {P : Program} {ops : Array Oper} {Q : Exit → Act → World → Prop} {md : Region.Mode} {S : World → Prop} {ds : List Nat}
theorem last_store {i : Nat} {oi : Oper} {fuel : Nat} {l : Array Bool} {A : Act} {w : World} (l' : Array Bool) (hi : ops[i]? = some oi) (hc : readyB md ops l l' i = true) (hd : i ∈ ds)
    (hwant : Region.wanted oi (yielded ops A.tmps) = true) (ty : TypeId) (x y : Operand) (ho : oi.op = .store ty x y) (hdst : oi.dst = none) (g : Nat) (cells : Array Value) (hx : A.eval x = .pointer (some ⟨g, 0, none⟩)) (hy : A.eval y = .agg cells)
    (t : TypeId) (old : Array Value) (hg : w.heap[g]? = some (.cells old t (0, 0))) (hz : (P.info? ty).map (·.size) = some cells.size) (hold : old.size = cells.size) (h1 : cells.all (·.oneCell') = true)
    (hr : (Region.ready md ops l' == []) = true) (tt : Tmp) (vv : Value) (htt : A.tmps.getD tt undef = vv) (hdf : A.defers = []) (h : ∀ B : Act, B.tmps.getD tt undef = vv → B.defers = [] → Q .normal B (w.setRow g cells)) : wpAnyLast P md ops Q S ds (fuel + 1) l A w := by
  refine last_ l' hi hdst hc hd ?_
  intro K hK
  rw [if_pos hwant]
  refine wp_store_row ty x y ho g cells hx hy t old hg hz hold h1 ?_
  rw [hdst]
  exact hK.out _ _ (done_ hr (h _ htt hdf))
end
set_option maxRecDepth 100000 in
set_option maxHeartbeats 2000000 in
theorem fields_any (b : Nat) (w : World) : Calls Tryd.prog 42 #[.pointer (some ⟨b, 0, none⟩)] w fun e w' => e = .returned (.agg (fieldCells b)) ∧ Below w.heap.size w w' := by
  go_enter Tryd.func42, Tryd.ntmps42
  go_wp2_with fail
  have hg1 : (w.alloc (.cells #[.int .i64 0, .int .i64 0, .int .i64 0, .int .i64 0, .pointer none, .int .i64 0, .int .i64 0, .int .i64 0, .int .i64 0, .pointer none, .int .i64 0, .int .i64 0, .int .i64 0, .int .i64 0, .pointer none, .int .i64 0, .int .i64 0, .int .i64 0, .int .i64 0, .pointer none] 87)).heap[w.heap.size]? = some (.cells #[.int .i64 0, .int .i64 0, .int .i64 0, .int .i64 0, .pointer none, .int .i64 0, .int .i64 0, .int .i64 0, .int .i64 0, .pointer none, .int .i64 0, .int .i64 0, .int .i64 0, .int .i64 0, .pointer none, .int .i64 0, .int .i64 0, .int .i64 0, .int .i64 0, .pointer none] 87) := heap_alloc_new w _
  have B1 : Below w.heap.size w (w.alloc (.cells #[.int .i64 0, .int .i64 0, .int .i64 0, .int .i64 0, .pointer none, .int .i64 0, .int .i64 0, .int .i64 0, .int .i64 0, .pointer none, .int .i64 0, .int .i64 0, .int .i64 0, .int .i64 0, .pointer none, .int .i64 0, .int .i64 0, .int .i64 0, .int .i64 0, .pointer none] 87)) := (Below.refl _ _).alloc (Nat.le_refl _) _
  generalize w.alloc (.cells #[.int .i64 0, .int .i64 0, .int .i64 0, .int .i64 0, .pointer none, .int .i64 0, .int .i64 0, .int .i64 0, .int .i64 0, .pointer none, .int .i64 0, .int .i64 0, .int .i64 0, .int .i64 0, .pointer none, .int .i64 0, .int .i64 0, .int .i64 0, .int .i64 0, .pointer none] 87) = w1 at *
  generalize hgs : w.heap.size = g at *
  have HG := Lib.hid hgs
  clear hgs
  refine start_ (S := fun _ => True) (ds := [17]) #[false, false, false, false, false, false, false, false, false, false, false, false, false, false, false, false, false, false] (by kernel_rfl) rfl rfl trivial ?_
  intro _
  refine pure_ (i := 0) (N := some 3) (v := (.pointer (some ⟨b, 0, none⟩))) #[true, false, false, false, false, false, false, false, false, false, false, false, false, false, false, false, false, false] rfl rfl (by kernel_rfl) (fun _ _ _ h => h) (Or.inl ⟨by kernel_rfl, fun w => by kernel_rfl⟩) rfl ?_
  refine pure_ (i := 1) (N := some 4) (v := (.pointer (some ⟨b, 0, none⟩))) #[true, true, false, false, false, false, false, false, false, false, false, false, false, false, false, false, false, false] rfl rfl (by kernel_rfl) (fun _ _ _ h => h) (Or.inl ⟨by kernel_rfl, fun w => by kernel_rfl⟩) rfl ?_
  refine pure_ (i := 2) (N := some 5) (v := (.pointer (some ⟨b, 1, none⟩))) #[true, true, true, false, false, false, false, false, false, false, false, false, false, false, false, false, false, false] rfl rfl (by kernel_rfl) (fun _ _ _ h => h) (Or.inl ⟨by kernel_rfl, fun w => by kernel_rfl⟩) rfl ?_
  refine pure_ (i := 3) (N := some 6) (v := (.agg #[.int .i64 1, .int .i64 1, .int .i64 7, .int .i64 5, .pointer (some ⟨b, 1, none⟩)])) #[true, true, true, true, false, false, false, false, false, false, false, false, false, false, false, false, false, false] rfl rfl (by kernel_rfl) (fun _ _ _ h => h) (Or.inl ⟨by kernel_rfl, fun w => by kernel_rfl⟩) rfl ?_
  refine pure_ (i := 4) (N := some 7) (v := (.pointer (some ⟨b, 0, none⟩))) #[true, true, true, true, true, false, false, false, false, false, false, false, false, false, false, false, false, false] rfl rfl (by kernel_rfl) (fun _ _ _ h => h) (Or.inl ⟨by kernel_rfl, fun w => by kernel_rfl⟩) rfl ?_
  refine pure_ (i := 5) (N := some 8) (v := (.pointer (some ⟨b, 0, none⟩))) #[true, true, true, true, true, true, false, false, false, false, false, false, false, false, false, false, false, false] rfl rfl (by kernel_rfl) (fun _ _ _ h => h) (Or.inl ⟨by kernel_rfl, fun w => by kernel_rfl⟩) rfl ?_
  refine pure_ (i := 6) (N := some 9) (v := (.pointer (some ⟨b, 2, none⟩))) #[true, true, true, true, true, true, true, false, false, false, false, false, false, false, false, false, false, false] rfl rfl (by kernel_rfl) (fun _ _ _ h => h) (Or.inl ⟨by kernel_rfl, fun w => by kernel_rfl⟩) rfl ?_
  refine pure_ (i := 7) (N := some 10) (v := (.agg #[.int .i64 2, .int .i64 2, .int .i64 15, .int .i64 5, .pointer (some ⟨b, 2, none⟩)])) #[true, true, true, true, true, true, true, true, false, false, false, false, false, false, false, false, false, false] rfl rfl (by kernel_rfl) (fun _ _ _ h => h) (Or.inl ⟨by kernel_rfl, fun w => by kernel_rfl⟩) rfl ?_
  refine pure_ (i := 8) (N := some 11) (v := (.pointer (some ⟨b, 0, none⟩))) #[true, true, true, true, true, true, true, true, true, false, false, false, false, false, false, false, false, false] rfl rfl (by kernel_rfl) (fun _ _ _ h => h) (Or.inl ⟨by kernel_rfl, fun w => by kernel_rfl⟩) rfl ?_
  refine pure_ (i := 9) (N := some 12) (v := (.pointer (some ⟨b, 0, none⟩))) #[true, true, true, true, true, true, true, true, true, true, false, false, false, false, false, false, false, false] rfl rfl (by kernel_rfl) (fun _ _ _ h => h) (Or.inl ⟨by kernel_rfl, fun w => by kernel_rfl⟩) rfl ?_
  refine pure_ (i := 10) (N := some 13) (v := (.pointer (some ⟨b, 3, none⟩))) #[true, true, true, true, true, true, true, true, true, true, true, false, false, false, false, false, false, false] rfl rfl (by kernel_rfl) (fun _ _ _ h => h) (Or.inl ⟨by kernel_rfl, fun w => by kernel_rfl⟩) rfl ?_
  refine pure_ (i := 11) (N := some 14) (v := (.agg #[.int .i64 4, .int .i64 3, .int .i64 20, .int .i64 5, .pointer (some ⟨b, 3, none⟩)])) #[true, true, true, true, true, true, true, true, true, true, true, true, false, false, false, false, false, false] rfl rfl (by kernel_rfl) (fun _ _ _ h => h) (Or.inl ⟨by kernel_rfl, fun w => by kernel_rfl⟩) rfl ?_
  refine pure_ (i := 12) (N := some 15) (v := (.pointer (some ⟨b, 0, none⟩))) #[true, true, true, true, true, true, true, true, true, true, true, true, true, false, false, false, false, false] rfl rfl (by kernel_rfl) (fun _ _ _ h => h) (Or.inl ⟨by kernel_rfl, fun w => by kernel_rfl⟩) rfl ?_
  refine pure_ (i := 13) (N := some 16) (v := (.pointer (some ⟨b, 0, none⟩))) #[true, true, true, true, true, true, true, true, true, true, true, true, true, true, false, false, false, false] rfl rfl (by kernel_rfl) (fun _ _ _ h => h) (Or.inl ⟨by kernel_rfl, fun w => by kernel_rfl⟩) rfl ?_
  refine pure_ (i := 14) (N := some 17) (v := (.pointer (some ⟨b, 5, none⟩))) #[true, true, true, true, true, true, true, true, true, true, true, true, true, true, true, false, false, false] rfl rfl (by kernel_rfl) (fun _ _ _ h => h) (Or.inl ⟨by kernel_rfl, fun w => by kernel_rfl⟩) rfl ?_
  refine pure_ (i := 15) (N := some 18) (v := (.agg #[.int .i64 16, .int .i64 5, .int .i64 20, .int .i64 12, .pointer (some ⟨b, 5, none⟩)])) #[true, true, true, true, true, true, true, true, true, true, true, true, true, true, true, true, false, false] rfl rfl (by kernel_rfl) (fun _ _ _ h => h) (Or.inl ⟨by kernel_rfl, fun w => by kernel_rfl⟩) rfl ?_
  refine pure_ (i := 16) (N := some 19) (v := (.agg (fieldCells b))) #[true, true, true, true, true, true, true, true, true, true, true, true, true, true, true, true, true, false] rfl rfl (by kernel_rfl) (fun _ _ _ h => h) (Or.inl ⟨by kernel_rfl, fun w => by kernel_rfl⟩) rfl ?_
  have hg2 : w1.drew.heap[g]? = some (.cells #[.int .i64 0, .int .i64 0, .int .i64 0, .int .i64 0, .pointer none, .int .i64 0, .int .i64 0, .int .i64 0, .int .i64 0, .pointer none, .int .i64 0, .int .i64 0, .int .i64 0, .int .i64 0, .pointer none, .int .i64 0, .int .i64 0, .int .i64 0, .int .i64 0, .pointer none] 87) := hg1
  refine last_store (i := 17) #[true, true, true, true, true, true, true, true, true, true, true, true, true, true, true, true, true, true] rfl (by kernel_rfl) (by decide) (by kernel_rfl) 87 (.tmp 2) (.tmp 19) rfl rfl g (fieldCells b) (by kernel_rfl) (by kernel_rfl) 87 _ hg2 (by kernel_rfl) rfl (by kernel_rfl) (by kernel_rfl) 2 (.pointer (some ⟨g, 0, none⟩)) (by kernel_rfl) (by kernel_rfl) ?_
  intro B htt hdf
  have hg3 : (w1.drew.setRow g (fieldCells b)).heap[g]? = some (.cells (fieldCells b) 87) := setRow_heap _ _ _ _ _ _ hg2
  have B2 : Below g w (w1.drew.setRow g (fieldCells b)) := B1.trans ⟨rfl, rfl, rfl, by rw [setRow_size]; exact Nat.le_refl _, fun k hk => by rw [setRow_other _ _ _ _ (Nat.ne_of_lt hk)]; rfl⟩
  generalize w1.drew.setRow g (fieldCells b) = w3 at *
  go_wp2_with fail
  refine bodyPost_ret (results_cell_row rfl _ _ g 87 (fieldCells b) (0, 0) _ htt hg3 Tryd.underlying87 rfl (by kernel_rfl)) hdf ⟨rfl, by rw [HG.out]; exact B2⟩
end Go.Proofs.YtgjiojcdifjhcaaDoor
